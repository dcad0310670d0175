import Derived.Test.YtkedidjjhhjdbaaGreatDoorD0
import Derived.Test.YtkedidjjhhjdbaaGreatDoorD5
import Derived.Test.YtkedidjjhhjdbaaGreatDoorD3
section
namespace Go.Proofs.YtkedidjjhhjdbaaGreatDoor.Pr
open Go.RowKit Go.Proofs.YtkedidjjhhjdbaaGreatDoorW.PrintWords Go.Proofs.YtkedidjjhhjdbaaGreatDoorW.PrintLast Go.Proofs.YtkedidjjhhjdbaaGreatDoorW.PrintMore
attribute [local go_sem] max2_int min2_int max_two min_two max_three min_three max_four min_four strGtr strLeq strGeq
set_option linter.unusedVariables false
set_option linter.unusedSimpArgs false
mutual
def belfryref04_Key.j0 : Nat → ByteArray → Bool → Option (Bool)
  | 0, _, _ => none
  | k + 1, x0, x13 => if x13 = true then (some false) else (belfryref04_Key.l0 k x0 0)
def belfryref04_Key.l0 : Nat → ByteArray → Int → Option (Bool)
  | 0, _, _ => none
  | k + 1, x0, x3 => if x3 < (x0.size : Int) then (if 0 ≤ x3 then (if (bt x0 x3) ≥ 97 then (if (bt x0 x3) ≤ 122 then (belfryref04_Key.l0 k x0 (wrap64 (x3 + 1))) else (if (bt x0 x3) ≥ 65 then (if (bt x0 x3) ≤ 90 then (belfryref04_Key.l0 k x0 (wrap64 (x3 + 1))) else (if ((bt x0 x3) = 95) then (belfryref04_Key.l0 k x0 (wrap64 (x3 + 1))) else (if x3 = 0 then (some false) else (if (bt x0 x3) ≥ 48 then (if (bt x0 x3) ≤ 57 then (belfryref04_Key.l0 k x0 (wrap64 (x3 + 1))) else (if ((bt x0 x3) = 46) then (belfryref04_Key.l0 k x0 (wrap64 (x3 + 1))) else (some false))) else (if ((bt x0 x3) = 46) then (belfryref04_Key.l0 k x0 (wrap64 (x3 + 1))) else (some false)))))) else (if ((bt x0 x3) = 95) then (belfryref04_Key.l0 k x0 (wrap64 (x3 + 1))) else (if x3 = 0 then (some false) else (if (bt x0 x3) ≥ 48 then (if (bt x0 x3) ≤ 57 then (belfryref04_Key.l0 k x0 (wrap64 (x3 + 1))) else (if ((bt x0 x3) = 46) then (belfryref04_Key.l0 k x0 (wrap64 (x3 + 1))) else (some false))) else (if ((bt x0 x3) = 46) then (belfryref04_Key.l0 k x0 (wrap64 (x3 + 1))) else (some false))))))) else (if (bt x0 x3) ≥ 65 then (if (bt x0 x3) ≤ 90 then (belfryref04_Key.l0 k x0 (wrap64 (x3 + 1))) else (if ((bt x0 x3) = 95) then (belfryref04_Key.l0 k x0 (wrap64 (x3 + 1))) else (if x3 = 0 then (some false) else (if (bt x0 x3) ≥ 48 then (if (bt x0 x3) ≤ 57 then (belfryref04_Key.l0 k x0 (wrap64 (x3 + 1))) else (if ((bt x0 x3) = 46) then (belfryref04_Key.l0 k x0 (wrap64 (x3 + 1))) else (some false))) else (if ((bt x0 x3) = 46) then (belfryref04_Key.l0 k x0 (wrap64 (x3 + 1))) else (some false)))))) else (if ((bt x0 x3) = 95) then (belfryref04_Key.l0 k x0 (wrap64 (x3 + 1))) else (if x3 = 0 then (some false) else (if (bt x0 x3) ≥ 48 then (if (bt x0 x3) ≤ 57 then (belfryref04_Key.l0 k x0 (wrap64 (x3 + 1))) else (if ((bt x0 x3) = 46) then (belfryref04_Key.l0 k x0 (wrap64 (x3 + 1))) else (some false))) else (if ((bt x0 x3) = 46) then (belfryref04_Key.l0 k x0 (wrap64 (x3 + 1))) else (some false))))))) else (none)) else (some true)
end
def belfryref04_Key.f (k : Nat) (a0 : ByteArray) : Option (Bool) := if (a0.size : Int) < 1 then (belfryref04_Key.j0 k a0 true) else (belfryref04_Key.j0 k a0 (decide ((a0.size : Int) > 64)))
set_option maxHeartbeats 8000000 in
set_option maxRecDepth 100000 in
theorem belfryref04_Key.calls (k : Nat) (a0 : ByteArray) (r : Bool) (w : World) (h : belfryref04_Key.f k a0 = some r) :
  Calls Tryz.prog 55 #[.string a0] w fun e w' => e = .returned (.bool r) ∧ Drawn0 w w' := by
 have H : (if (a0.size : Int) < 1 then (belfryref04_Key.j0 k a0 true) else (belfryref04_Key.j0 k a0 (decide ((a0.size : Int) > 64)))) = some r := h
 clear h; have HC2 := Aside0.mk H; clear H
 go_enter Tryz.func55, Tryz.ntmps55
 go_upto_region 1 with (fail)
 go_cut [13] (fun v13 wc => ∃ (kq : Nat) (x13_1 : Bool), v13 = .bool x13_1 ∧ Aside0 (belfryref04_Key.j0 kq a0 x13_1 = some r) ∧ Aside0 (kq ≤ k) ∧ Drawn0 w wc)
 case first =>
  have H := HC2.out; clear HC2; by_cases c3 : (a0.size : Int) < 1
  ·
   rw [if_pos c3] at H
   have c3b0 : decide ((a0.size : Int) < 1) = true := decide_eq_true c3
   have c3b1 : decide (a0.size < 1) = true := decide_eq_true (by omega)
   clear c3
   (first | rw [c3b0] | (simp only [i64_w, i32_w]; rw [c3b0]) | skip)
   have H' := Aside0.mk H; clear H; go_wp2
   go_meet
   case rel => exact ⟨_, (true), sR, H', ⟨by first | omega | exact Nat.le_refl _⟩, by repeat (first | exact Drawn0.refl _ | apply Drawn0.step)⟩
  rw [if_neg c3] at H
  have c3b0 : decide ((a0.size : Int) < 1) = false := decide_eq_false c3
  have c3b1 : decide (a0.size < 1) = false := decide_eq_false (by omega)
  clear c3
  (first | rw [c3b0] | (simp only [i64_w, i32_w]; rw [c3b0]) | skip)
  have H' := Aside0.mk H; clear H; go_wp2
  go_meet
  case rel => exact ⟨_, (decide ((a0.size : Int) > 64)), sR, H', ⟨by first | omega | exact Nat.le_refl _⟩, by repeat (first | exact Drawn0.refl _ | apply Drawn0.step)⟩
 case rest =>
  clear HC2; (try clear p2); (try clear c3); (try clear c3b0); (try clear c3b1)
  obtain ⟨kq, x13_1, rfl, HA, HJ1, ⟨mc1, rfl⟩⟩ := hcut
  cases kq with
  | zero => exact absurd HA.out (by simp [belfryref04_Key.j0])
  | succ kj1 =>
   have H := HA.out; clear HA
   simp only [belfryref04_Key.j0] at H
   by_cases c4 : x13_1 = true
   ·
    subst c4
    have H1 : (some false) = some r := by rw [if_pos rfl] at H; exact H
    clear H; have H := H1; clear H1
    obtain rfl := Option.some.inj H
    go_wp2; go_ret
    exact ⟨by first | rfl | (simp; done) | (simp [*]; done), by repeat (first | exact Drawn0.refl _ | apply Drawn0.step)⟩
   replace c4 := Bool.eq_false_iff.mpr c4
   subst c4
   have H1 : (belfryref04_Key.l0 kj1 a0 0) = some r := by rw [if_neg (show ¬ (false = true) by decide)] at H; exact H
   clear H; have H := H1; clear H1; have H' := Aside0.mk H; clear H; go_wp2
   go_loopg [3] kj1 (fun kq v3 w' => ∃ (x3_2 : Int), v3 = .int .i64 x3_2 ∧ Aside0 (belfryref04_Key.l0 kq a0 x3_2 = some r) ∧ Aside0 (kq ≤ kj1) ∧ Drawn0 w w')
   case atStart => exact ⟨(0), sR, H', ⟨Nat.le_refl _⟩, by repeat (first | exact Drawn0.refl _ | apply Drawn0.step)⟩
   case round =>
    clear H'; (try clear c1); (try clear p2); (try clear c3); (try clear c3b0); (try clear c3b1); (try clear c4); (try clear p2)
    obtain ⟨x3_2, rfl, HA, HK2, ⟨m2, rfl⟩⟩ := hrel
    cases gk with
    | zero => exact absurd HA.out (by simp [belfryref04_Key.l0])
    | succ k2 =>
     have H := HA.out; clear HA
     simp only [belfryref04_Key.l0] at H
     by_cases c5 : x3_2 < (a0.size : Int); rotate_left
     ·
      rw [if_neg c5] at H
      have c5b0 : decide (x3_2 < (a0.size : Int)) = false := decide_eq_false c5
      clear c5
      obtain rfl := Option.some.inj H
      go_wp2; go_ret
      exact ⟨by first | rfl | (simp; done) | (simp [*]; done), by repeat (first | exact Drawn0.refl _ | apply Drawn0.step)⟩
     rw [if_pos c5] at H
     have c5b0 : decide (x3_2 < (a0.size : Int)) = true := decide_eq_true c5
     clear c5; by_cases c6 : 0 ≤ x3_2; rotate_left
     · rw [if_neg c6] at H; exact absurd H (by simp)
     rw [if_pos c6] at H
     have c6b0 : decide (0 ≤ x3_2) = true := decide_eq_true c6
     clear c6; by_cases c8 : (bt a0 x3_2) ≥ 97; rotate_left
     ·
      rw [if_neg c8] at H
      have c8b0 : decide (97 ≤ (bt a0 x3_2)) = false := decide_eq_false c8
      clear c8; by_cases c24 : (bt a0 x3_2) ≥ 65; rotate_left
      ·
       rw [if_neg c24] at H
       have c24b0 : decide (65 ≤ (bt a0 x3_2)) = false := decide_eq_false c24
       clear c24; by_cases c32 : ((bt a0 x3_2) = 95)
       ·
        rw [if_pos c32] at H
        have c32b0 : ((bt a0 x3_2) == 95) = true := beq_iff_eq.mpr c32
        have c32b1 : ((bt a0 x3_2) != 95) = false := bne_eq_false_iff_eq.mpr c32
        clear c32; have H' := Aside0.mk H; clear H
        have p7 : 0 ≤ (x3_2 : Int) := of_decide_eq_true asm
        have q7 : x3_2 < (a0.size : Int) := of_decide_eq_true asm
        have hx7 := bt_at a0 x3_2; replace p7 := eq_true p7; replace q7 := eq_true q7; go_wp2
        go_roundg k2
        case measure => have := HJ1.out; have := HK2.out; omega
        case rel => exact ⟨(wrap64 (x3_2 + 1)), sR, H', ⟨by have := HJ1.out; have := HK2.out; omega⟩, by repeat (first | exact Drawn0.refl _ | apply Drawn0.step)⟩
       rw [if_neg c32] at H
       have c32b0 : ((bt a0 x3_2) == 95) = false := beq_eq_false_iff_ne.mpr c32
       have c32b1 : ((bt a0 x3_2) != 95) = true := bne_iff_ne.mpr c32
       by_cases c33 : x3_2 = 0
       ·
        rw [if_pos c33] at H
        have c33b0 : (x3_2 == 0) = true := beq_iff_eq.mpr c33
        have c33b1 : (x3_2 != 0) = false := bne_eq_false_iff_eq.mpr c33
        clear c33
        obtain rfl := Option.some.inj H
        have p7 : 0 ≤ (x3_2 : Int) := of_decide_eq_true asm
        have q7 : x3_2 < (a0.size : Int) := of_decide_eq_true asm
        have hx7 := bt_at a0 x3_2; replace p7 := eq_true p7; replace q7 := eq_true q7; go_wp2; go_ret
        exact ⟨by first | rfl | (simp; done) | (simp [*]; done), by repeat (first | exact Drawn0.refl _ | apply Drawn0.step)⟩
       rw [if_neg c33] at H
       have c33b0 : (x3_2 == 0) = false := beq_eq_false_iff_ne.mpr c33
       have c33b1 : (x3_2 != 0) = true := bne_iff_ne.mpr c33
       by_cases c34 : (bt a0 x3_2) ≥ 48; rotate_left
       ·
        rw [if_neg c34] at H
        have c34b0 : decide (48 ≤ (bt a0 x3_2)) = false := decide_eq_false c34
        clear c34; by_cases c37 : ((bt a0 x3_2) = 46); rotate_left
        ·
         rw [if_neg c37] at H
         have c37b0 : ((bt a0 x3_2) == 46) = false := beq_eq_false_iff_ne.mpr c37
         have c37b1 : ((bt a0 x3_2) != 46) = true := bne_iff_ne.mpr c37
         obtain rfl := Option.some.inj H
         have p7 : 0 ≤ (x3_2 : Int) := of_decide_eq_true asm
         have q7 : x3_2 < (a0.size : Int) := of_decide_eq_true asm
         have hx7 := bt_at a0 x3_2; replace p7 := eq_true p7; replace q7 := eq_true q7; go_wp2; go_ret
         exact ⟨by first | rfl | (simp; done) | (simp [*]; done), by repeat (first | exact Drawn0.refl _ | apply Drawn0.step)⟩
        rw [if_pos c37] at H
        have c37b0 : ((bt a0 x3_2) == 46) = true := beq_iff_eq.mpr c37
        have c37b1 : ((bt a0 x3_2) != 46) = false := bne_eq_false_iff_eq.mpr c37
        clear c37; have H' := Aside0.mk H; clear H
        have p7 : 0 ≤ (x3_2 : Int) := of_decide_eq_true asm
        have q7 : x3_2 < (a0.size : Int) := of_decide_eq_true asm
        have hx7 := bt_at a0 x3_2; replace p7 := eq_true p7; replace q7 := eq_true q7; go_wp2
        go_roundg k2
        case measure => have := HJ1.out; have := HK2.out; omega
        case rel => exact ⟨(wrap64 (x3_2 + 1)), sR, H', ⟨by have := HJ1.out; have := HK2.out; omega⟩, by repeat (first | exact Drawn0.refl _ | apply Drawn0.step)⟩
       rw [if_pos c34] at H
       have c34b0 : decide (48 ≤ (bt a0 x3_2)) = true := decide_eq_true c34
       clear c34; by_cases c35 : (bt a0 x3_2) ≤ 57
       ·
        rw [if_pos c35] at H
        have c35b0 : decide ((bt a0 x3_2) ≤ 57) = true := decide_eq_true c35
        clear c35; have H' := Aside0.mk H; clear H
        have p7 : 0 ≤ (x3_2 : Int) := of_decide_eq_true asm
        have q7 : x3_2 < (a0.size : Int) := of_decide_eq_true asm
        have hx7 := bt_at a0 x3_2; replace p7 := eq_true p7; replace q7 := eq_true q7; go_wp2
        go_roundg k2
        case measure => have := HJ1.out; have := HK2.out; omega
        case rel => exact ⟨(wrap64 (x3_2 + 1)), sR, H', ⟨by have := HJ1.out; have := HK2.out; omega⟩, by repeat (first | exact Drawn0.refl _ | apply Drawn0.step)⟩
       rw [if_neg c35] at H
       have c35b0 : decide ((bt a0 x3_2) ≤ 57) = false := decide_eq_false c35
       clear c35; by_cases c36 : ((bt a0 x3_2) = 46); rotate_left
       ·
        rw [if_neg c36] at H
        have c36b0 : ((bt a0 x3_2) == 46) = false := beq_eq_false_iff_ne.mpr c36
        have c36b1 : ((bt a0 x3_2) != 46) = true := bne_iff_ne.mpr c36
        obtain rfl := Option.some.inj H
        have p7 : 0 ≤ (x3_2 : Int) := of_decide_eq_true asm
        have q7 : x3_2 < (a0.size : Int) := of_decide_eq_true asm
        have hx7 := bt_at a0 x3_2; replace p7 := eq_true p7; replace q7 := eq_true q7; go_wp2; go_ret
        exact ⟨by first | rfl | (simp; done) | (simp [*]; done), by repeat (first | exact Drawn0.refl _ | apply Drawn0.step)⟩
       rw [if_pos c36] at H
       have c36b0 : ((bt a0 x3_2) == 46) = true := beq_iff_eq.mpr c36
       have c36b1 : ((bt a0 x3_2) != 46) = false := bne_eq_false_iff_eq.mpr c36
       clear c36; have H' := Aside0.mk H; clear H
       have p7 : 0 ≤ (x3_2 : Int) := of_decide_eq_true asm
       have q7 : x3_2 < (a0.size : Int) := of_decide_eq_true asm
       have hx7 := bt_at a0 x3_2; replace p7 := eq_true p7; replace q7 := eq_true q7; go_wp2
       go_roundg k2
       case measure => have := HJ1.out; have := HK2.out; omega
       case rel => exact ⟨(wrap64 (x3_2 + 1)), sR, H', ⟨by have := HJ1.out; have := HK2.out; omega⟩, by repeat (first | exact Drawn0.refl _ | apply Drawn0.step)⟩
      rw [if_pos c24] at H
      have c24b0 : decide (65 ≤ (bt a0 x3_2)) = true := decide_eq_true c24
      clear c24; by_cases c25 : (bt a0 x3_2) ≤ 90
      ·
       rw [if_pos c25] at H
       have c25b0 : decide ((bt a0 x3_2) ≤ 90) = true := decide_eq_true c25
       clear c25; have H' := Aside0.mk H; clear H
       have p7 : 0 ≤ (x3_2 : Int) := of_decide_eq_true asm
       have q7 : x3_2 < (a0.size : Int) := of_decide_eq_true asm
       have hx7 := bt_at a0 x3_2; replace p7 := eq_true p7; replace q7 := eq_true q7; go_wp2
       go_roundg k2
       case measure => have := HJ1.out; have := HK2.out; omega
       case rel => exact ⟨(wrap64 (x3_2 + 1)), sR, H', ⟨by have := HJ1.out; have := HK2.out; omega⟩, by repeat (first | exact Drawn0.refl _ | apply Drawn0.step)⟩
      rw [if_neg c25] at H
      have c25b0 : decide ((bt a0 x3_2) ≤ 90) = false := decide_eq_false c25
      clear c25; by_cases c26 : ((bt a0 x3_2) = 95)
      ·
       rw [if_pos c26] at H
       have c26b0 : ((bt a0 x3_2) == 95) = true := beq_iff_eq.mpr c26
       have c26b1 : ((bt a0 x3_2) != 95) = false := bne_eq_false_iff_eq.mpr c26
       clear c26; have H' := Aside0.mk H; clear H
       have p7 : 0 ≤ (x3_2 : Int) := of_decide_eq_true asm
       have q7 : x3_2 < (a0.size : Int) := of_decide_eq_true asm
       have hx7 := bt_at a0 x3_2; replace p7 := eq_true p7; replace q7 := eq_true q7; go_wp2
       go_roundg k2
       case measure => have := HJ1.out; have := HK2.out; omega
       case rel => exact ⟨(wrap64 (x3_2 + 1)), sR, H', ⟨by have := HJ1.out; have := HK2.out; omega⟩, by repeat (first | exact Drawn0.refl _ | apply Drawn0.step)⟩
      rw [if_neg c26] at H
      have c26b0 : ((bt a0 x3_2) == 95) = false := beq_eq_false_iff_ne.mpr c26
      have c26b1 : ((bt a0 x3_2) != 95) = true := bne_iff_ne.mpr c26
      by_cases c27 : x3_2 = 0
      ·
       rw [if_pos c27] at H
       have c27b0 : (x3_2 == 0) = true := beq_iff_eq.mpr c27
       have c27b1 : (x3_2 != 0) = false := bne_eq_false_iff_eq.mpr c27
       clear c27
       obtain rfl := Option.some.inj H
       have p7 : 0 ≤ (x3_2 : Int) := of_decide_eq_true asm
       have q7 : x3_2 < (a0.size : Int) := of_decide_eq_true asm
       have hx7 := bt_at a0 x3_2; replace p7 := eq_true p7; replace q7 := eq_true q7; go_wp2; go_ret
       exact ⟨by first | rfl | (simp; done) | (simp [*]; done), by repeat (first | exact Drawn0.refl _ | apply Drawn0.step)⟩
      rw [if_neg c27] at H
      have c27b0 : (x3_2 == 0) = false := beq_eq_false_iff_ne.mpr c27
      have c27b1 : (x3_2 != 0) = true := bne_iff_ne.mpr c27
      by_cases c28 : (bt a0 x3_2) ≥ 48; rotate_left
      ·
       rw [if_neg c28] at H
       have c28b0 : decide (48 ≤ (bt a0 x3_2)) = false := decide_eq_false c28
       clear c28; by_cases c31 : ((bt a0 x3_2) = 46); rotate_left
       ·
        rw [if_neg c31] at H
        have c31b0 : ((bt a0 x3_2) == 46) = false := beq_eq_false_iff_ne.mpr c31
        have c31b1 : ((bt a0 x3_2) != 46) = true := bne_iff_ne.mpr c31
        obtain rfl := Option.some.inj H
        have p7 : 0 ≤ (x3_2 : Int) := of_decide_eq_true asm
        have q7 : x3_2 < (a0.size : Int) := of_decide_eq_true asm
        have hx7 := bt_at a0 x3_2; replace p7 := eq_true p7; replace q7 := eq_true q7; go_wp2; go_ret
        exact ⟨by first | rfl | (simp; done) | (simp [*]; done), by repeat (first | exact Drawn0.refl _ | apply Drawn0.step)⟩
       rw [if_pos c31] at H
       have c31b0 : ((bt a0 x3_2) == 46) = true := beq_iff_eq.mpr c31
       have c31b1 : ((bt a0 x3_2) != 46) = false := bne_eq_false_iff_eq.mpr c31
       clear c31; have H' := Aside0.mk H; clear H
       have p7 : 0 ≤ (x3_2 : Int) := of_decide_eq_true asm
       have q7 : x3_2 < (a0.size : Int) := of_decide_eq_true asm
       have hx7 := bt_at a0 x3_2; replace p7 := eq_true p7; replace q7 := eq_true q7; go_wp2
       go_roundg k2
       case measure => have := HJ1.out; have := HK2.out; omega
       case rel => exact ⟨(wrap64 (x3_2 + 1)), sR, H', ⟨by have := HJ1.out; have := HK2.out; omega⟩, by repeat (first | exact Drawn0.refl _ | apply Drawn0.step)⟩
      rw [if_pos c28] at H
      have c28b0 : decide (48 ≤ (bt a0 x3_2)) = true := decide_eq_true c28
      clear c28; by_cases c29 : (bt a0 x3_2) ≤ 57
      ·
       rw [if_pos c29] at H
       have c29b0 : decide ((bt a0 x3_2) ≤ 57) = true := decide_eq_true c29
       clear c29; have H' := Aside0.mk H; clear H
       have p7 : 0 ≤ (x3_2 : Int) := of_decide_eq_true asm
       have q7 : x3_2 < (a0.size : Int) := of_decide_eq_true asm
       have hx7 := bt_at a0 x3_2; replace p7 := eq_true p7; replace q7 := eq_true q7; go_wp2
       go_roundg k2
       case measure => have := HJ1.out; have := HK2.out; omega
       case rel => exact ⟨(wrap64 (x3_2 + 1)), sR, H', ⟨by have := HJ1.out; have := HK2.out; omega⟩, by repeat (first | exact Drawn0.refl _ | apply Drawn0.step)⟩
      rw [if_neg c29] at H
      have c29b0 : decide ((bt a0 x3_2) ≤ 57) = false := decide_eq_false c29
      clear c29; by_cases c30 : ((bt a0 x3_2) = 46); rotate_left
      ·
       rw [if_neg c30] at H
       have c30b0 : ((bt a0 x3_2) == 46) = false := beq_eq_false_iff_ne.mpr c30
       have c30b1 : ((bt a0 x3_2) != 46) = true := bne_iff_ne.mpr c30
       obtain rfl := Option.some.inj H
       have p7 : 0 ≤ (x3_2 : Int) := of_decide_eq_true asm
       have q7 : x3_2 < (a0.size : Int) := of_decide_eq_true asm
       have hx7 := bt_at a0 x3_2; replace p7 := eq_true p7; replace q7 := eq_true q7; go_wp2; go_ret
       exact ⟨by first | rfl | (simp; done) | (simp [*]; done), by repeat (first | exact Drawn0.refl _ | apply Drawn0.step)⟩
      rw [if_pos c30] at H
      have c30b0 : ((bt a0 x3_2) == 46) = true := beq_iff_eq.mpr c30
      have c30b1 : ((bt a0 x3_2) != 46) = false := bne_eq_false_iff_eq.mpr c30
      clear c30; have H' := Aside0.mk H; clear H
      have p7 : 0 ≤ (x3_2 : Int) := of_decide_eq_true asm
      have q7 : x3_2 < (a0.size : Int) := of_decide_eq_true asm
      have hx7 := bt_at a0 x3_2; replace p7 := eq_true p7; replace q7 := eq_true q7; go_wp2
      go_roundg k2
      case measure => have := HJ1.out; have := HK2.out; omega
      case rel => exact ⟨(wrap64 (x3_2 + 1)), sR, H', ⟨by have := HJ1.out; have := HK2.out; omega⟩, by repeat (first | exact Drawn0.refl _ | apply Drawn0.step)⟩
     rw [if_pos c8] at H
     have c8b0 : decide (97 ≤ (bt a0 x3_2)) = true := decide_eq_true c8
     clear c8; by_cases c9 : (bt a0 x3_2) ≤ 122
     ·
      rw [if_pos c9] at H
      have c9b0 : decide ((bt a0 x3_2) ≤ 122) = true := decide_eq_true c9
      clear c9; have H' := Aside0.mk H; clear H
      have p7 : 0 ≤ (x3_2 : Int) := of_decide_eq_true asm
      have q7 : x3_2 < (a0.size : Int) := of_decide_eq_true asm
      have hx7 := bt_at a0 x3_2; replace p7 := eq_true p7; replace q7 := eq_true q7; go_wp2
      go_roundg k2
      case measure => have := HJ1.out; have := HK2.out; omega
      case rel => exact ⟨(wrap64 (x3_2 + 1)), sR, H', ⟨by have := HJ1.out; have := HK2.out; omega⟩, by repeat (first | exact Drawn0.refl _ | apply Drawn0.step)⟩
     rw [if_neg c9] at H
     have c9b0 : decide ((bt a0 x3_2) ≤ 122) = false := decide_eq_false c9
     clear c9; by_cases c10 : (bt a0 x3_2) ≥ 65; rotate_left
     ·
      rw [if_neg c10] at H
      have c10b0 : decide (65 ≤ (bt a0 x3_2)) = false := decide_eq_false c10
      clear c10; by_cases c18 : ((bt a0 x3_2) = 95)
      ·
       rw [if_pos c18] at H
       have c18b0 : ((bt a0 x3_2) == 95) = true := beq_iff_eq.mpr c18
       have c18b1 : ((bt a0 x3_2) != 95) = false := bne_eq_false_iff_eq.mpr c18
       clear c18; have H' := Aside0.mk H; clear H
       have p7 : 0 ≤ (x3_2 : Int) := of_decide_eq_true asm
       have q7 : x3_2 < (a0.size : Int) := of_decide_eq_true asm
       have hx7 := bt_at a0 x3_2; replace p7 := eq_true p7; replace q7 := eq_true q7; go_wp2
       go_roundg k2
       case measure => have := HJ1.out; have := HK2.out; omega
       case rel => exact ⟨(wrap64 (x3_2 + 1)), sR, H', ⟨by have := HJ1.out; have := HK2.out; omega⟩, by repeat (first | exact Drawn0.refl _ | apply Drawn0.step)⟩
      rw [if_neg c18] at H
      have c18b0 : ((bt a0 x3_2) == 95) = false := beq_eq_false_iff_ne.mpr c18
      have c18b1 : ((bt a0 x3_2) != 95) = true := bne_iff_ne.mpr c18
      by_cases c19 : x3_2 = 0
      ·
       rw [if_pos c19] at H
       have c19b0 : (x3_2 == 0) = true := beq_iff_eq.mpr c19
       have c19b1 : (x3_2 != 0) = false := bne_eq_false_iff_eq.mpr c19
       clear c19
       obtain rfl := Option.some.inj H
       have p7 : 0 ≤ (x3_2 : Int) := of_decide_eq_true asm
       have q7 : x3_2 < (a0.size : Int) := of_decide_eq_true asm
       have hx7 := bt_at a0 x3_2; replace p7 := eq_true p7; replace q7 := eq_true q7; go_wp2; go_ret
       exact ⟨by first | rfl | (simp; done) | (simp [*]; done), by repeat (first | exact Drawn0.refl _ | apply Drawn0.step)⟩
      rw [if_neg c19] at H
      have c19b0 : (x3_2 == 0) = false := beq_eq_false_iff_ne.mpr c19
      have c19b1 : (x3_2 != 0) = true := bne_iff_ne.mpr c19
      by_cases c20 : (bt a0 x3_2) ≥ 48; rotate_left
      ·
       rw [if_neg c20] at H
       have c20b0 : decide (48 ≤ (bt a0 x3_2)) = false := decide_eq_false c20
       clear c20; by_cases c23 : ((bt a0 x3_2) = 46); rotate_left
       ·
        rw [if_neg c23] at H
        have c23b0 : ((bt a0 x3_2) == 46) = false := beq_eq_false_iff_ne.mpr c23
        have c23b1 : ((bt a0 x3_2) != 46) = true := bne_iff_ne.mpr c23
        obtain rfl := Option.some.inj H
        have p7 : 0 ≤ (x3_2 : Int) := of_decide_eq_true asm
        have q7 : x3_2 < (a0.size : Int) := of_decide_eq_true asm
        have hx7 := bt_at a0 x3_2; replace p7 := eq_true p7; replace q7 := eq_true q7; go_wp2; go_ret
        exact ⟨by first | rfl | (simp; done) | (simp [*]; done), by repeat (first | exact Drawn0.refl _ | apply Drawn0.step)⟩
       rw [if_pos c23] at H
       have c23b0 : ((bt a0 x3_2) == 46) = true := beq_iff_eq.mpr c23
       have c23b1 : ((bt a0 x3_2) != 46) = false := bne_eq_false_iff_eq.mpr c23
       clear c23; have H' := Aside0.mk H; clear H
       have p7 : 0 ≤ (x3_2 : Int) := of_decide_eq_true asm
       have q7 : x3_2 < (a0.size : Int) := of_decide_eq_true asm
       have hx7 := bt_at a0 x3_2; replace p7 := eq_true p7; replace q7 := eq_true q7; go_wp2
       go_roundg k2
       case measure => have := HJ1.out; have := HK2.out; omega
       case rel => exact ⟨(wrap64 (x3_2 + 1)), sR, H', ⟨by have := HJ1.out; have := HK2.out; omega⟩, by repeat (first | exact Drawn0.refl _ | apply Drawn0.step)⟩
      rw [if_pos c20] at H
      have c20b0 : decide (48 ≤ (bt a0 x3_2)) = true := decide_eq_true c20
      clear c20; by_cases c21 : (bt a0 x3_2) ≤ 57
      ·
       rw [if_pos c21] at H
       have c21b0 : decide ((bt a0 x3_2) ≤ 57) = true := decide_eq_true c21
       clear c21; have H' := Aside0.mk H; clear H
       have p7 : 0 ≤ (x3_2 : Int) := of_decide_eq_true asm
       have q7 : x3_2 < (a0.size : Int) := of_decide_eq_true asm
       have hx7 := bt_at a0 x3_2; replace p7 := eq_true p7; replace q7 := eq_true q7; go_wp2
       go_roundg k2
       case measure => have := HJ1.out; have := HK2.out; omega
       case rel => exact ⟨(wrap64 (x3_2 + 1)), sR, H', ⟨by have := HJ1.out; have := HK2.out; omega⟩, by repeat (first | exact Drawn0.refl _ | apply Drawn0.step)⟩
      rw [if_neg c21] at H
      have c21b0 : decide ((bt a0 x3_2) ≤ 57) = false := decide_eq_false c21
      clear c21; by_cases c22 : ((bt a0 x3_2) = 46); rotate_left
      ·
       rw [if_neg c22] at H
       have c22b0 : ((bt a0 x3_2) == 46) = false := beq_eq_false_iff_ne.mpr c22
       have c22b1 : ((bt a0 x3_2) != 46) = true := bne_iff_ne.mpr c22
       obtain rfl := Option.some.inj H
       have p7 : 0 ≤ (x3_2 : Int) := of_decide_eq_true asm
       have q7 : x3_2 < (a0.size : Int) := of_decide_eq_true asm
       have hx7 := bt_at a0 x3_2; replace p7 := eq_true p7; replace q7 := eq_true q7; go_wp2; go_ret
       exact ⟨by first | rfl | (simp; done) | (simp [*]; done), by repeat (first | exact Drawn0.refl _ | apply Drawn0.step)⟩
      rw [if_pos c22] at H
      have c22b0 : ((bt a0 x3_2) == 46) = true := beq_iff_eq.mpr c22
      have c22b1 : ((bt a0 x3_2) != 46) = false := bne_eq_false_iff_eq.mpr c22
      clear c22; have H' := Aside0.mk H; clear H
      have p7 : 0 ≤ (x3_2 : Int) := of_decide_eq_true asm
      have q7 : x3_2 < (a0.size : Int) := of_decide_eq_true asm
      have hx7 := bt_at a0 x3_2; replace p7 := eq_true p7; replace q7 := eq_true q7; go_wp2
      go_roundg k2
      case measure => have := HJ1.out; have := HK2.out; omega
      case rel => exact ⟨(wrap64 (x3_2 + 1)), sR, H', ⟨by have := HJ1.out; have := HK2.out; omega⟩, by repeat (first | exact Drawn0.refl _ | apply Drawn0.step)⟩
     rw [if_pos c10] at H
     have c10b0 : decide (65 ≤ (bt a0 x3_2)) = true := decide_eq_true c10
     clear c10; by_cases c11 : (bt a0 x3_2) ≤ 90
     ·
      rw [if_pos c11] at H
      have c11b0 : decide ((bt a0 x3_2) ≤ 90) = true := decide_eq_true c11
      clear c11; have H' := Aside0.mk H; clear H
      have p7 : 0 ≤ (x3_2 : Int) := of_decide_eq_true asm
      have q7 : x3_2 < (a0.size : Int) := of_decide_eq_true asm
      have hx7 := bt_at a0 x3_2; replace p7 := eq_true p7; replace q7 := eq_true q7; go_wp2
      go_roundg k2
      case measure => have := HJ1.out; have := HK2.out; omega
      case rel => exact ⟨(wrap64 (x3_2 + 1)), sR, H', ⟨by have := HJ1.out; have := HK2.out; omega⟩, by repeat (first | exact Drawn0.refl _ | apply Drawn0.step)⟩
     rw [if_neg c11] at H
     have c11b0 : decide ((bt a0 x3_2) ≤ 90) = false := decide_eq_false c11
     clear c11; by_cases c12 : ((bt a0 x3_2) = 95)
     ·
      rw [if_pos c12] at H
      have c12b0 : ((bt a0 x3_2) == 95) = true := beq_iff_eq.mpr c12
      have c12b1 : ((bt a0 x3_2) != 95) = false := bne_eq_false_iff_eq.mpr c12
      clear c12; have H' := Aside0.mk H; clear H
      have p7 : 0 ≤ (x3_2 : Int) := of_decide_eq_true asm
      have q7 : x3_2 < (a0.size : Int) := of_decide_eq_true asm
      have hx7 := bt_at a0 x3_2; replace p7 := eq_true p7; replace q7 := eq_true q7; go_wp2
      go_roundg k2
      case measure => have := HJ1.out; have := HK2.out; omega
      case rel => exact ⟨(wrap64 (x3_2 + 1)), sR, H', ⟨by have := HJ1.out; have := HK2.out; omega⟩, by repeat (first | exact Drawn0.refl _ | apply Drawn0.step)⟩
     rw [if_neg c12] at H
     have c12b0 : ((bt a0 x3_2) == 95) = false := beq_eq_false_iff_ne.mpr c12
     have c12b1 : ((bt a0 x3_2) != 95) = true := bne_iff_ne.mpr c12
     by_cases c13 : x3_2 = 0
     ·
      rw [if_pos c13] at H
      have c13b0 : (x3_2 == 0) = true := beq_iff_eq.mpr c13
      have c13b1 : (x3_2 != 0) = false := bne_eq_false_iff_eq.mpr c13
      clear c13
      obtain rfl := Option.some.inj H
      have p7 : 0 ≤ (x3_2 : Int) := of_decide_eq_true asm
      have q7 : x3_2 < (a0.size : Int) := of_decide_eq_true asm
      have hx7 := bt_at a0 x3_2; replace p7 := eq_true p7; replace q7 := eq_true q7; go_wp2; go_ret
      exact ⟨by first | rfl | (simp; done) | (simp [*]; done), by repeat (first | exact Drawn0.refl _ | apply Drawn0.step)⟩
     rw [if_neg c13] at H
     have c13b0 : (x3_2 == 0) = false := beq_eq_false_iff_ne.mpr c13
     have c13b1 : (x3_2 != 0) = true := bne_iff_ne.mpr c13
     by_cases c14 : (bt a0 x3_2) ≥ 48; rotate_left
     ·
      rw [if_neg c14] at H
      have c14b0 : decide (48 ≤ (bt a0 x3_2)) = false := decide_eq_false c14
      clear c14; by_cases c17 : ((bt a0 x3_2) = 46); rotate_left
      ·
       rw [if_neg c17] at H
       have c17b0 : ((bt a0 x3_2) == 46) = false := beq_eq_false_iff_ne.mpr c17
       have c17b1 : ((bt a0 x3_2) != 46) = true := bne_iff_ne.mpr c17
       obtain rfl := Option.some.inj H
       have p7 : 0 ≤ (x3_2 : Int) := of_decide_eq_true asm
       have q7 : x3_2 < (a0.size : Int) := of_decide_eq_true asm
       have hx7 := bt_at a0 x3_2; replace p7 := eq_true p7; replace q7 := eq_true q7; go_wp2; go_ret
       exact ⟨by first | rfl | (simp; done) | (simp [*]; done), by repeat (first | exact Drawn0.refl _ | apply Drawn0.step)⟩
      rw [if_pos c17] at H
      have c17b0 : ((bt a0 x3_2) == 46) = true := beq_iff_eq.mpr c17
      have c17b1 : ((bt a0 x3_2) != 46) = false := bne_eq_false_iff_eq.mpr c17
      clear c17; have H' := Aside0.mk H; clear H
      have p7 : 0 ≤ (x3_2 : Int) := of_decide_eq_true asm
      have q7 : x3_2 < (a0.size : Int) := of_decide_eq_true asm
      have hx7 := bt_at a0 x3_2; replace p7 := eq_true p7; replace q7 := eq_true q7; go_wp2
      go_roundg k2
      case measure => have := HJ1.out; have := HK2.out; omega
      case rel => exact ⟨(wrap64 (x3_2 + 1)), sR, H', ⟨by have := HJ1.out; have := HK2.out; omega⟩, by repeat (first | exact Drawn0.refl _ | apply Drawn0.step)⟩
     rw [if_pos c14] at H
     have c14b0 : decide (48 ≤ (bt a0 x3_2)) = true := decide_eq_true c14
     clear c14; by_cases c15 : (bt a0 x3_2) ≤ 57
     ·
      rw [if_pos c15] at H
      have c15b0 : decide ((bt a0 x3_2) ≤ 57) = true := decide_eq_true c15
      clear c15; have H' := Aside0.mk H; clear H
      have p7 : 0 ≤ (x3_2 : Int) := of_decide_eq_true asm
      have q7 : x3_2 < (a0.size : Int) := of_decide_eq_true asm
      have hx7 := bt_at a0 x3_2; replace p7 := eq_true p7; replace q7 := eq_true q7; go_wp2
      go_roundg k2
      case measure => have := HJ1.out; have := HK2.out; omega
      case rel => exact ⟨(wrap64 (x3_2 + 1)), sR, H', ⟨by have := HJ1.out; have := HK2.out; omega⟩, by repeat (first | exact Drawn0.refl _ | apply Drawn0.step)⟩
     rw [if_neg c15] at H
     have c15b0 : decide ((bt a0 x3_2) ≤ 57) = false := decide_eq_false c15
     clear c15; by_cases c16 : ((bt a0 x3_2) = 46); rotate_left
     ·
      rw [if_neg c16] at H
      have c16b0 : ((bt a0 x3_2) == 46) = false := beq_eq_false_iff_ne.mpr c16
      have c16b1 : ((bt a0 x3_2) != 46) = true := bne_iff_ne.mpr c16
      obtain rfl := Option.some.inj H
      have p7 : 0 ≤ (x3_2 : Int) := of_decide_eq_true asm
      have q7 : x3_2 < (a0.size : Int) := of_decide_eq_true asm
      have hx7 := bt_at a0 x3_2; replace p7 := eq_true p7; replace q7 := eq_true q7; go_wp2; go_ret
      exact ⟨by first | rfl | (simp; done) | (simp [*]; done), by repeat (first | exact Drawn0.refl _ | apply Drawn0.step)⟩
     rw [if_pos c16] at H
     have c16b0 : ((bt a0 x3_2) == 46) = true := beq_iff_eq.mpr c16
     have c16b1 : ((bt a0 x3_2) != 46) = false := bne_eq_false_iff_eq.mpr c16
     clear c16; have H' := Aside0.mk H; clear H
     have p7 : 0 ≤ (x3_2 : Int) := of_decide_eq_true asm
     have q7 : x3_2 < (a0.size : Int) := of_decide_eq_true asm
     have hx7 := bt_at a0 x3_2; replace p7 := eq_true p7; replace q7 := eq_true q7; go_wp2
     go_roundg k2
     case measure => have := HJ1.out; have := HK2.out; omega
     case rel => exact ⟨(wrap64 (x3_2 + 1)), sR, H', ⟨by have := HJ1.out; have := HK2.out; omega⟩, by repeat (first | exact Drawn0.refl _ | apply Drawn0.step)⟩
end Go.Proofs.YtkedidjjhhjdbaaGreatDoor.Pr
end
section
set_option linter.unusedVariables false
set_option linter.unusedSimpArgs false
namespace Go.Proofs.YtkedidjjhhjdbaaGreatDoor.Pr
open Go.RowKit Go.Proofs.YtkedidjjhhjdbaaGreatDoorW.PrintWords Go.Proofs.YtkedidjjhhjdbaaGreatDoorW.PrintLast Go.Proofs.YtkedidjjhhjdbaaGreatDoorW.PrintMore
theorem wrap_succ {i : Int} (h0 : 0 ≤ i) (h1 : i < 9223372036854775807) : wrap64 (i + 1) = i + 1 := by unfold wrap64; omega
def headB (c : Int) : Bool := (decide (97 ≤ c) && decide (c ≤ 122)) || (decide (65 ≤ c) && decide (c ≤ 90)) || c == 95
def tailB (c : Int) : Bool := headB c || (decide (48 ≤ c) && decide (c ≤ 57)) || c == 46
theorem head_eq (c : Int) (h0 : 0 ≤ c) (h1 : c ≤ 255) : attr_head.f c = some (headB c) := by
 have h : ((List.range 256).all fun n => attr_head.f (n : Int) == some (headB (n : Int))) = true := by kernel_rfl
 have := List.all_eq_true.1 h c.toNat (List.mem_range.2 (by omega))
 rw [Int.toNat_of_nonneg h0] at this; exact eq_of_beq this
theorem tail_eq (c : Int) (h0 : 0 ≤ c) (h1 : c ≤ 255) : attr_tail.f c = some (tailB c) := by
 have h : ((List.range 256).all fun n => attr_tail.f (n : Int) == some (tailB (n : Int))) = true := by kernel_rfl
 have := List.all_eq_true.1 h c.toNat (List.mem_range.2 (by omega))
 rw [Int.toNat_of_nonneg h0] at this; exact eq_of_beq this
def allT (s : ByteArray) : Int → Nat → Bool
  | _, 0 => true
  | i, n + 1 => tailB (bt s i) && allT s (i + 1) n
theorem attr_Key_l0 (s : ByteArray) (hs : s.size ≤ 9223372036854775807) : ∀ (n : Nat) (i : Int), 0 ≤ i → i + n = s.size → ∀ k, n < k → attr_Key.l0 k s (s.size : Int) i = some (allT s i n)
 | _, _, _, _, 0, hk => absurd hk (by omega)
 | 0, i, h0, hn, k + 1, hk => by
  rw [attr_Key.l0, if_neg (by omega)]; rfl
 | n + 1, i, h0, hn, k + 1, hk => by
  rw [attr_Key.l0, if_pos (by omega), if_pos h0, if_pos (by omega), tail_eq _ (bt_range s i).1 (bt_range s i).2, Option.bind_some, wrap_succ h0 (by omega)]; rw [allT]
  cases h : tailB (bt s i) with
  | false => simp
  | true =>
   rw [if_pos rfl, attr_Key_l0 s hs n (i + 1) (by omega) (by omega) k (by omega)]
   simp
def allR (s : ByteArray) : Int → Nat → Bool
  | _, 0 => true
  | i, n + 1 => (if headB (bt s i) then true else (if i = 0 then false else tailB (bt s i))) && allR s (i + 1) n
theorem ref_Key_l0 (s : ByteArray) (hs : s.size ≤ 9223372036854775807) : ∀ (n : Nat) (i : Int), 0 ≤ i → i + n = s.size → ∀ k, n < k → belfryref04_Key.l0 k s i = some (allR s i n)
 | _, _, _, _, 0, hk => absurd hk (by omega)
 | 0, i, h0, hn, k + 1, hk => by
  rw [belfryref04_Key.l0, if_neg (by omega)]; rfl
 | n + 1, i, h0, hn, k + 1, hk => by
  have ih := ref_Key_l0 s hs n (i + 1) (by omega) (by omega) k (by omega); rw [belfryref04_Key.l0, if_pos (by omega), if_pos h0, wrap_succ h0 (by omega), ih, allR]; simp only [headB, tailB]
  generalize bt s i = c
  by_cases h97 : c ≥ 97 <;> by_cases h122 : c ≤ 122 <;> by_cases h65 : c ≥ 65 <;> by_cases h90 : c ≤ 90 <;> by_cases h95 : c = 95 <;> by_cases hi : i = 0 <;> by_cases h48 : c ≥ 48 <;> by_cases h57 : c ≤ 57 <;> by_cases h46 : c = 46 <;> first | omega | simp [*]
theorem allR_allT (s : ByteArray) : ∀ (n : Nat) (i : Int), 0 < i → allR s i n = allT s i n
 | 0, _, _ => rfl
 | n + 1, i, h => by
  rw [allR, allT, allR_allT s n (i + 1) (by omega), if_neg (show ¬ i = 0 by omega)]
  cases hh : headB (bt s i) with
  | false => simp
  | true => simp [tailB, hh]
def keyB (s : ByteArray) : Bool := decide (1 ≤ s.size) && decide (s.size ≤ 64) && headB (bt s 0) && allT s 1 (s.size - 1)
theorem toList_nil {s : ByteArray} : s.toList = ([] : List UInt8) ↔ s.size = 0 := by
 rw [Lib.toList_data]
 constructor
 · intro h; show s.data.size = 0; rw [← Array.length_toList, h]; rfl
 intro h
 have : s.data.size = 0 := h
 rw [← Array.length_toList] at this; exact List.eq_nil_of_length_eq_zero this
theorem key_eq (s : ByteArray) (k : Nat) (hk : 66 < k) : attr_Key.f k s = some (keyB s) := by
 obtain ⟨k, rfl⟩ : ∃ j, k = j + 1 := ⟨k - 1, by omega⟩
 unfold attr_Key.f keyB
 by_cases h0 : s.size = 0
 ·
  rw [if_pos (toList_nil.2 h0)]
  simp [attr_Key.j0, h0]
 rw [if_neg (fun h => h0 (toList_nil.1 h))]
 by_cases h64 : (s.size : Int) > 64
 ·
  rw [if_pos h64]
  have : ¬ s.size ≤ 64 := by omega
  simp [attr_Key.j0, this]
 rw [if_neg h64, if_pos (by omega), head_eq _ (bt_range s 0).1 (bt_range s 0).2, Option.bind_some]
 have h1 : decide (1 ≤ s.size) = true := decide_eq_true (by omega)
 have h2 : decide (s.size ≤ 64) = true := decide_eq_true (by omega)
 rw [h1, h2]
 cases hh : headB (bt s 0) with
 | false => simp [attr_Key.j0]
 | true =>
  rw [attr_Key.j0]; rw [if_neg (by simp)]
  obtain ⟨n, hn⟩ : ∃ n, s.size = n + 1 := ⟨s.size - 1, by omega⟩
  rw [attr_Key_l0 s (by omega) (n + 1) 0 (by omega) (by omega) k (by omega), allT, hn]
  have : tailB (bt s 0) = true := by simp [tailB, hh]
  rw [this]
  simp
theorem ref_key_eq (s : ByteArray) (k : Nat) (hk : 66 < k) : belfryref04_Key.f k s = some (keyB s) := by
 obtain ⟨k, rfl⟩ : ∃ j, k = j + 1 := ⟨k - 1, by omega⟩
 unfold belfryref04_Key.f keyB
 by_cases h0 : (s.size : Int) < 1
 ·
  rw [if_pos h0]
  have : s.size = 0 := by omega
  simp [belfryref04_Key.j0, this]
 rw [if_neg h0]; by_cases h64 : (s.size : Int) > 64
 ·
  have : ¬ s.size ≤ 64 := by omega
  simp [belfryref04_Key.j0, this, h64]
 have h1 : decide (1 ≤ s.size) = true := decide_eq_true (by omega)
 have h2 : decide (s.size ≤ 64) = true := decide_eq_true (by omega)
 rw [h1, h2, belfryref04_Key.j0, if_neg (by simp; omega)]
 obtain ⟨n, hn⟩ : ∃ n, s.size = n + 1 := ⟨s.size - 1, by omega⟩
 rw [ref_Key_l0 s (by omega) (n + 1) 0 (by omega) (by omega) k (by omega), allR, allR_allT s n (0 + 1) (by omega), hn]
 cases hh : headB (bt s 0) with
 | false => simp
 | true => simp
end Go.Proofs.YtkedidjjhhjdbaaGreatDoor.Pr
end
section
set_option linter.unusedVariables false
set_option linter.unusedSimpArgs false
namespace Go.Proofs.YtkedidjjhhjdbaaGreatDoor.Pr
open Go.RowKit Go.Proofs.YtkedidjjhhjdbaaGreatDoorW.PrintWords Go.Proofs.YtkedidjjhhjdbaaGreatDoorW.PrintLast Go.Proofs.YtkedidjjhhjdbaaGreatDoorW.PrintMore
def utf8_ValidString.f (a0 : ByteArray) : Option Bool := if a0.size ≤ 9223372036854775807 then some (Lib.validD a0.data.toList) else none
theorem utf8_ValidString.calls (a0 : ByteArray) (r : Bool) (w : World) (h : utf8_ValidString.f a0 = some r)
  (he_ : EnvW w := by repeat (first | with_reducible assumption | with_reducible exact env_of (by with_reducible assumption) (by with_reducible assumption) | with_reducible exact env_out (by with_reducible assumption) | with_reducible apply env_alloc | with_reducible apply env_drewN | with_reducible apply env_drew | with_reducible refine env_set ?_ (by with_reducible assumption) (by with_reducible assumption))) :
  Calls Tryz.prog 118 #[.string a0] w fun e w' => e = .returned (.bool r) ∧ Below w.heap.size w w' := by
 unfold utf8_ValidString.f at h
 by_cases hs : a0.size ≤ 9223372036854775807; rotate_left
 · rw [if_neg hs] at h; cases h
 rw [if_pos hs] at h
 obtain rfl := Option.some.inj h
 exact Any.utf8_ValidString Tryz.lays196 a0 w hs he_.1
end Go.Proofs.YtkedidjjhhjdbaaGreatDoor.Pr
end
section
namespace Go.Proofs.YtkedidjjhhjdbaaGreatDoor.Pr
open Go.RowKit Go.Proofs.YtkedidjjhhjdbaaGreatDoorW.PrintWords Go.Proofs.YtkedidjjhhjdbaaGreatDoorW.PrintLast Go.Proofs.YtkedidjjhhjdbaaGreatDoorW.PrintMore
attribute [local go_sem] max2_int min2_int max_two min_two max_three min_three max_four min_four strGtr strLeq strGeq
set_option linter.unusedVariables false
set_option linter.unusedSimpArgs false
def attr_plain.f (a0 : ByteArray) : Option (Bool) := if (a0.size : Int) ≤ 256 then ((utf8_ValidString.f a0).bind fun t106 => (some t106)) else (some false)
set_option maxHeartbeats 8000000 in
set_option maxRecDepth 100000 in
theorem attr_plain.calls (a0 : ByteArray) (r : Bool) (w : World) (h : attr_plain.f a0 = some r) (he_ : EnvW w := by repeat (first | with_reducible assumption | with_reducible exact env_of (by with_reducible assumption) (by with_reducible assumption) | with_reducible exact env_out (by with_reducible assumption) | with_reducible apply env_alloc | with_reducible apply env_drewN | with_reducible apply env_drew | with_reducible refine env_set ?_ (by with_reducible assumption) (by with_reducible assumption))) :
  Calls Tryz.prog 93 #[.string a0] w fun e w' => e = .returned (.bool r) ∧ Below w.heap.size w w' := by
 have HE_ := Aside0.mk he_; clear he_; have HB := Aside0.mk (Below.refl w.heap.size w)
 have H : (if (a0.size : Int) ≤ 256 then ((utf8_ValidString.f a0).bind fun t106 => (some t106)) else (some false)) = some r := h
 clear h; by_cases c2 : (a0.size : Int) ≤ 256; rotate_left
 ·
  rw [if_neg c2] at H
  have c2b0 : decide ((a0.size : Int) ≤ 256) = false := decide_eq_false c2
  have c2b1 : decide (a0.size ≤ 256) = false := decide_eq_false (by omega)
  clear c2
  obtain rfl := Option.some.inj H
  go_enter Tryz.func93, Tryz.ntmps93
  go_wp2; go_ret
  exact ⟨eR, bO⟩
 rw [if_pos c2] at H
 have c2b0 : decide ((a0.size : Int) ≤ 256) = true := decide_eq_true c2
 have c2b1 : decide (a0.size ≤ 256) = true := decide_eq_true (by omega)
 clear c2
 replace H := Option.bind_eq_some_iff.mp H
 obtain ⟨t106, A30, H⟩ := H
 replace H : (some t106) = some r := H
 have A3 := Aside0.mk A30; clear A30
 obtain rfl := Option.some.inj H
 go_enter Tryz.func93, Tryz.ntmps93
 go_wp2_with (first | (go_at_call 118; (with_reducible refine (utf8_ValidString.calls a0 t106 _ A3.out).mono ?_); rintro e w4 ⟨rfl, hb⟩; have n0_ := Aside0.mk (below_step bO hb); clear HB; have HB := n0_; clear n0_; (try clear hb); (try clear hb2); (try clear hk); (try clear hi)))
 go_ret
 exact ⟨eR, bO⟩
def attr_wrong.l0 : Nat → List (S33) → Int → Int → Option (Int)
  | 0, _, _, _ => none
  | k + 1, x5, x6, x7 => if x7 < x6 then (if 0 ≤ x7 then (if x7 < (x5.length : Int) then ((attr_sign.f ((rd_T33 x5 x7).f0)).bind fun t109 => (if t109.toList = ([] : List UInt8) then (some 42) else ((attr_Key.f k ((rd_T33 x5 x7).f1)).bind fun t110 => (if t110 = true then ((attr_plain.f ((rd_T33 x5 x7).f2)).bind fun t111 => (if t111 = true then (attr_wrong.l0 k x5 x6 (wrap64 (x7 + 1))) else (some 41))) else (some 40))))) else (none)) else (none)) else (some 0)
def attr_wrong.f (k : Nat) (l0 : List (S33)) : Option (Int) := attr_wrong.l0 k l0 (l0.length : Int) 0
set_option maxHeartbeats 8000000 in
set_option maxRecDepth 100000 in
theorem attr_wrong.calls (k : Nat) (A0 : Option Addr) (c0 : Nat) (l0 : List (S33)) (r : Int) (w : World) (hr0 : Kd.C k33 w A0 l0.length l0) (hc0 : l0.length ≤ c0) (h : attr_wrong.f k l0 = some r) (he_ : EnvW w := by repeat (first | with_reducible assumption | with_reducible exact env_of (by with_reducible assumption) (by with_reducible assumption) | with_reducible exact env_out (by with_reducible assumption) | with_reducible apply env_alloc | with_reducible apply env_drewN | with_reducible apply env_drew | with_reducible refine env_set ?_ (by with_reducible assumption) (by with_reducible assumption))) :
  Calls Tryz.prog 63 #[.slice A0 l0.length c0] w fun e w' => e = .returned (.int .i64 r) ∧ Below w.heap.size w w' := by
 have HE_ := Aside0.mk he_; clear he_; have hu33 := Tryz.underlying33; have HR0 := Aside0.mk hr0; have HC0 := Aside0.mk hc0; clear hr0 hc0; have HB := Aside0.mk (Below.refl w.heap.size w)
 have H : (attr_wrong.l0 k l0 (l0.length : Int) 0) = some r := h
 clear h; have H' := Aside0.mk H; clear H
 go_enter Tryz.func63, Tryz.ntmps63
 go_wp2
 go_loopg [7] k (fun kq v7 w' => ∃ (x7_1 : Int), v7 = .int .i64 x7_1 ∧ Aside0 (attr_wrong.l0 kq l0 (l0.length : Int) x7_1 = some r) ∧ Aside0 (kq ≤ k) ∧ Aside0 (Below w.heap.size w w'))
 case atStart => exact ⟨(0), sR, H', ⟨Nat.le_refl _⟩, ⟨bO⟩⟩
 case round =>
  clear H'
  obtain ⟨x7_1, rfl, HA, HK1, HB⟩ := hrel
  cases gk with
  | zero => exact absurd HA.out (by simp [attr_wrong.l0])
  | succ k1 =>
   have H := HA.out; clear HA
   simp only [attr_wrong.l0] at H
   by_cases c2 : x7_1 < (l0.length : Int); rotate_left
   ·
    rw [if_neg c2] at H
    have c2b0 : decide (x7_1 < (l0.length : Int)) = false := decide_eq_false c2
    clear c2
    obtain rfl := Option.some.inj H
    go_wp2; go_ret
    exact ⟨eR, bO⟩
   rw [if_pos c2] at H
   have c2b0 : decide (x7_1 < (l0.length : Int)) = true := decide_eq_true c2
   clear c2; by_cases c3 : 0 ≤ x7_1; rotate_left
   · rw [if_neg c3] at H; exact absurd H (by simp)
   rw [if_pos c3] at H
   have c3b0 : decide (0 ≤ x7_1) = true := decide_eq_true c3
   clear c3; by_cases c4 : x7_1 < (l0.length : Int); rotate_left
   · rw [if_neg c4] at H; exact absurd H (by simp)
   rw [if_pos c4] at H
   have c4b0 : decide (x7_1 < (l0.length : Int)) = true := decide_eq_true c4
   clear c4
   replace H := Option.bind_eq_some_iff.mp H
   obtain ⟨t109, A50, H⟩ := H
   replace H : (if t109.toList = ([] : List UInt8) then (some 42) else ((attr_Key.f k1 ((rd_T33 l0 x7_1).f1)).bind fun t110 => (if t110 = true then ((attr_plain.f ((rd_T33 l0 x7_1).f2)).bind fun t111 => (if t111 = true then (attr_wrong.l0 k1 l0 (l0.length : Int) (wrap64 (x7_1 + 1))) else (some 41))) else (some 40)))) = some r := H
   have A5 := Aside0.mk A50; clear A50; by_cases c6 : t109.toList = ([] : List UInt8)
   ·
    rw [if_pos c6] at H
    have c6b0 : (t109.toList == ([] : List UInt8)) = true := beq_iff_eq.mpr c6
    have c6b1 : (t109.toList != ([] : List UInt8)) = false := bne_eq_false_iff_eq.mpr c6
    clear c6
    obtain rfl := Option.some.inj H
    have p107 : 0 ≤ (x7_1 : Int) := of_decide_eq_true asm
    have q107 : x7_1 < (l0.length : Int) := of_decide_eq_true asm
    obtain ⟨ad107, e107, hx107_0, hx107_1, hx107_2⟩ := at_T33 HR0.out x7_1 p107 q107
    cases e107
    replace hx107_0 := bC HB hx107_0
    replace hx107_1 := bC HB hx107_1
    replace hx107_2 := bC HB hx107_2
    replace p107 := eq_true p107; replace q107 := eq_true q107
    go_wp2_with (first | ((with_reducible refine gate_dst (N := 4) rfl ?_); refine box_event ?hg (N := 4) ?hd (cs := #[.int .i64 0, .string (⟨#[]⟩ : ByteArray), .string (⟨#[]⟩ : ByteArray)]) (t := 33) ?hr ?_; (case hd => rfl); (case hg => rfl); (case hr => first | (go_simp; done) | (go_simp; rfl)); intro gb108 hg w7 hbox hb; have n0_ := Aside0.mk (below_step bO hb); have n1_ := Aside0.mk (hbox); have n2_ := Aside0.mk ((by rw [hg]; exact (below_size bO) : w.heap.size ≤ gb108)); have n3_ := Aside0.mk ((by rw [hg]; exact (below_size bO) : w.heap.size ≤ gb108)); clear HB; have HB := n0_; have BK108 := n1_; have GW108 := n2_; have GE108 := n3_; clear n0_ n1_ n2_ n3_; clear hb hbox hg; have hcz8_0 : w7.cell? ⟨gb108, 0, none⟩ = some (.int .i64 0) := (blk_cell BK108.out 0).trans rfl; have hcz8_1 : w7.cell? ⟨gb108, 1, none⟩ = some (.string (⟨#[]⟩ : ByteArray)) := (blk_cell BK108.out 1).trans rfl; have hcz8_2 : w7.cell? ⟨gb108, 2, none⟩ = some (.string (⟨#[]⟩ : ByteArray)) := (blk_cell BK108.out 2).trans rfl; have hfz8_0 := blk_frozen BK108.out 0; have hfz8_1 := blk_frozen BK108.out 1; have hfz8_2 := blk_frozen BK108.out 2) | ((with_reducible refine gate_callee (f := 92) rfl ?_); refine goesL_ (some 14) rfl rfl Tryz.func92 (by kernel_rfl) rfl #[.int .i64 ((rd_T33 l0 x7_1).f0)] rfl lR ?_; (with_reducible refine (attr_sign.calls ((rd_T33 l0 x7_1).f0) t109 _ A5.out).mono ?_); rintro e w' ⟨rfl, ⟨nd, rfl⟩⟩; refine ⟨_, rfl, ?_⟩))
    go_ret
    exact ⟨eR, bO⟩
   rw [if_neg c6] at H
   have c6b0 : (t109.toList == ([] : List UInt8)) = false := beq_eq_false_iff_ne.mpr c6
   have c6b1 : (t109.toList != ([] : List UInt8)) = true := bne_iff_ne.mpr c6
   replace H := Option.bind_eq_some_iff.mp H
   obtain ⟨t110, A90, H⟩ := H
   replace H : (if t110 = true then ((attr_plain.f ((rd_T33 l0 x7_1).f2)).bind fun t111 => (if t111 = true then (attr_wrong.l0 k1 l0 (l0.length : Int) (wrap64 (x7_1 + 1))) else (some 41))) else (some 40)) = some r := H
   have A9 := Aside0.mk A90; clear A90; by_cases c10 : t110 = true; rotate_left
   ·
    replace c10 := Bool.eq_false_iff.mpr c10
    subst c10
    have H1 : (some 40) = some r := by rw [if_neg (show ¬ (false = true) by decide)] at H; exact H
    clear H; have H := H1; clear H1
    obtain rfl := Option.some.inj H
    have p107 : 0 ≤ (x7_1 : Int) := of_decide_eq_true asm
    have q107 : x7_1 < (l0.length : Int) := of_decide_eq_true asm
    obtain ⟨ad107, e107, hx107_0, hx107_1, hx107_2⟩ := at_T33 HR0.out x7_1 p107 q107
    cases e107
    replace hx107_0 := bC HB hx107_0
    replace hx107_1 := bC HB hx107_1
    replace hx107_2 := bC HB hx107_2
    replace p107 := eq_true p107; replace q107 := eq_true q107
    go_wp2_with (first | ((with_reducible refine gate_dst (N := 4) rfl ?_); refine box_event ?hg (N := 4) ?hd (cs := #[.int .i64 0, .string (⟨#[]⟩ : ByteArray), .string (⟨#[]⟩ : ByteArray)]) (t := 33) ?hr ?_; (case hd => rfl); (case hg => rfl); (case hr => first | (go_simp; done) | (go_simp; rfl)); intro gb108 hg w19 hbox hb; have n0_ := Aside0.mk (below_step bO hb); have n1_ := Aside0.mk (hbox); have n2_ := Aside0.mk ((by rw [hg]; exact (below_size bO) : w.heap.size ≤ gb108)); have n3_ := Aside0.mk ((by rw [hg]; exact (below_size bO) : w.heap.size ≤ gb108)); clear HB; have HB := n0_; have BK108 := n1_; have GW108 := n2_; have GE108 := n3_; clear n0_ n1_ n2_ n3_; clear hb hbox hg; have hcz20_0 : w19.cell? ⟨gb108, 0, none⟩ = some (.int .i64 0) := (blk_cell BK108.out 0).trans rfl; have hcz20_1 : w19.cell? ⟨gb108, 1, none⟩ = some (.string (⟨#[]⟩ : ByteArray)) := (blk_cell BK108.out 1).trans rfl; have hcz20_2 : w19.cell? ⟨gb108, 2, none⟩ = some (.string (⟨#[]⟩ : ByteArray)) := (blk_cell BK108.out 2).trans rfl; have hfz20_0 := blk_frozen BK108.out 0; have hfz20_1 := blk_frozen BK108.out 1; have hfz20_2 := blk_frozen BK108.out 2) | ((with_reducible refine gate_callee (f := 92) rfl ?_); refine goesL_ (some 14) rfl rfl Tryz.func92 (by kernel_rfl) rfl #[.int .i64 ((rd_T33 l0 x7_1).f0)] rfl lR ?_; (with_reducible refine (attr_sign.calls ((rd_T33 l0 x7_1).f0) t109 _ A5.out).mono ?_); rintro e w' ⟨rfl, ⟨nd, rfl⟩⟩; refine ⟨_, rfl, ?_⟩) | ((with_reducible refine gate_callee (f := 52) rfl ?_); refine goesL_ (some 19) rfl rfl Tryz.func52 (by kernel_rfl) rfl #[.string ((rd_T33 l0 x7_1).f1)] rfl lR ?_; (with_reducible refine (attr_Key.calls k1 ((rd_T33 l0 x7_1).f1) false _ A9.out).mono ?_); rintro e w' ⟨rfl, ⟨nd, rfl⟩⟩; refine ⟨_, rfl, ?_⟩))
    go_ret
    exact ⟨eR, bO⟩
   subst c10
   have H1 : ((attr_plain.f ((rd_T33 l0 x7_1).f2)).bind fun t111 => (if t111 = true then (attr_wrong.l0 k1 l0 (l0.length : Int) (wrap64 (x7_1 + 1))) else (some 41))) = some r := by rw [if_pos rfl] at H; exact H
   clear H; have H := H1; clear H1
   replace H := Option.bind_eq_some_iff.mp H
   obtain ⟨t111, A110, H⟩ := H
   replace H : (if t111 = true then (attr_wrong.l0 k1 l0 (l0.length : Int) (wrap64 (x7_1 + 1))) else (some 41)) = some r := H
   have A11 := Aside0.mk A110; clear A110; by_cases c12 : t111 = true; rotate_left
   ·
    replace c12 := Bool.eq_false_iff.mpr c12
    subst c12
    have H1 : (some 41) = some r := by rw [if_neg (show ¬ (false = true) by decide)] at H; exact H
    clear H; have H := H1; clear H1
    obtain rfl := Option.some.inj H
    have p107 : 0 ≤ (x7_1 : Int) := of_decide_eq_true asm
    have q107 : x7_1 < (l0.length : Int) := of_decide_eq_true asm
    obtain ⟨ad107, e107, hx107_0, hx107_1, hx107_2⟩ := at_T33 HR0.out x7_1 p107 q107
    cases e107
    replace hx107_0 := bC HB hx107_0
    replace hx107_1 := bC HB hx107_1
    replace hx107_2 := bC HB hx107_2
    replace p107 := eq_true p107; replace q107 := eq_true q107
    go_wp2_with (first | ((with_reducible refine gate_dst (N := 4) rfl ?_); refine box_event ?hg (N := 4) ?hd (cs := #[.int .i64 0, .string (⟨#[]⟩ : ByteArray), .string (⟨#[]⟩ : ByteArray)]) (t := 33) ?hr ?_; (case hd => rfl); (case hg => rfl); (case hr => first | (go_simp; done) | (go_simp; rfl)); intro gb108 hg w16 hbox hb; have n0_ := Aside0.mk (below_step bO hb); have n1_ := Aside0.mk (hbox); have n2_ := Aside0.mk ((by rw [hg]; exact (below_size bO) : w.heap.size ≤ gb108)); have n3_ := Aside0.mk ((by rw [hg]; exact (below_size bO) : w.heap.size ≤ gb108)); clear HB; have HB := n0_; have BK108 := n1_; have GW108 := n2_; have GE108 := n3_; clear n0_ n1_ n2_ n3_; clear hb hbox hg; have hcz17_0 : w16.cell? ⟨gb108, 0, none⟩ = some (.int .i64 0) := (blk_cell BK108.out 0).trans rfl; have hcz17_1 : w16.cell? ⟨gb108, 1, none⟩ = some (.string (⟨#[]⟩ : ByteArray)) := (blk_cell BK108.out 1).trans rfl; have hcz17_2 : w16.cell? ⟨gb108, 2, none⟩ = some (.string (⟨#[]⟩ : ByteArray)) := (blk_cell BK108.out 2).trans rfl; have hfz17_0 := blk_frozen BK108.out 0; have hfz17_1 := blk_frozen BK108.out 1; have hfz17_2 := blk_frozen BK108.out 2) | ((with_reducible refine gate_callee (f := 92) rfl ?_); refine goesL_ (some 14) rfl rfl Tryz.func92 (by kernel_rfl) rfl #[.int .i64 ((rd_T33 l0 x7_1).f0)] rfl lR ?_; (with_reducible refine (attr_sign.calls ((rd_T33 l0 x7_1).f0) t109 _ A5.out).mono ?_); rintro e w' ⟨rfl, ⟨nd, rfl⟩⟩; refine ⟨_, rfl, ?_⟩) | ((with_reducible refine gate_callee (f := 52) rfl ?_); refine goesL_ (some 19) rfl rfl Tryz.func52 (by kernel_rfl) rfl #[.string ((rd_T33 l0 x7_1).f1)] rfl lR ?_; (with_reducible refine (attr_Key.calls k1 ((rd_T33 l0 x7_1).f1) true _ A9.out).mono ?_); rintro e w' ⟨rfl, ⟨nd, rfl⟩⟩; refine ⟨_, rfl, ?_⟩) | ((with_reducible refine gate_callee (f := 93) rfl ?_); refine goesL_ (some 24) rfl rfl Tryz.func93 (by kernel_rfl) rfl #[.string ((rd_T33 l0 x7_1).f2)] rfl lR ?_; (with_reducible refine (attr_plain.calls ((rd_T33 l0 x7_1).f2) false _ A11.out).mono ?_); rintro e w18 ⟨rfl, hb⟩; refine ⟨_, rfl, ?_⟩; have n0_ := Aside0.mk (blk_below (g := gb108) (o := .cells #[.int .i64 ((rd_T33 l0 x7_1).f0), .string ((rd_T33 l0 x7_1).f1), .string ((rd_T33 l0 x7_1).f2)] 33 (0, 0)) (by (with_reducible repeat (first | refine blk_drewN ?_ _ | refine blk_drew ?_ | refine blk_alloc ?_ _)); refine blk_put (cs := #[.int .i64 ((rd_T33 l0 x7_1).f0), .string ((rd_T33 l0 x7_1).f1), .string (⟨#[]⟩ : ByteArray)]) ?_ 2 _ rfl; (with_reducible repeat (first | refine blk_drewN ?_ _ | refine blk_drew ?_ | refine blk_alloc ?_ _)); refine blk_put (cs := #[.int .i64 ((rd_T33 l0 x7_1).f0), .string (⟨#[]⟩ : ByteArray), .string (⟨#[]⟩ : ByteArray)]) ?_ 1 _ rfl; (with_reducible repeat (first | refine blk_drewN ?_ _ | refine blk_drew ?_ | refine blk_alloc ?_ _)); refine blk_put (cs := #[.int .i64 0, .string (⟨#[]⟩ : ByteArray), .string (⟨#[]⟩ : ByteArray)]) ?_ 0 _ rfl; (with_reducible repeat (first | refine blk_drewN ?_ _ | refine blk_drew ?_ | refine blk_alloc ?_ _)); exact BK108.out) hb); have n1_ := Aside0.mk (below_step bO hb); clear BK108; clear HB; have BK108 := n0_; have HB := n1_; clear n0_ n1_; (try clear hb); (try clear hb2); (try clear hk); (try clear hi)))
    go_ret
    exact ⟨eR, bO⟩
   subst c12
   have H1 : (attr_wrong.l0 k1 l0 (l0.length : Int) (wrap64 (x7_1 + 1))) = some r := by rw [if_pos rfl] at H; exact H
   clear H; have H := H1; clear H1; have H' := Aside0.mk H; clear H
   have p107 : 0 ≤ (x7_1 : Int) := of_decide_eq_true asm
   have q107 : x7_1 < (l0.length : Int) := of_decide_eq_true asm
   obtain ⟨ad107, e107, hx107_0, hx107_1, hx107_2⟩ := at_T33 HR0.out x7_1 p107 q107
   cases e107
   replace hx107_0 := bC HB hx107_0
   replace hx107_1 := bC HB hx107_1
   replace hx107_2 := bC HB hx107_2
   replace p107 := eq_true p107; replace q107 := eq_true q107
   go_wp2_with (first | ((with_reducible refine gate_dst (N := 4) rfl ?_); refine box_event ?hg (N := 4) ?hd (cs := #[.int .i64 0, .string (⟨#[]⟩ : ByteArray), .string (⟨#[]⟩ : ByteArray)]) (t := 33) ?hr ?_; (case hd => rfl); (case hg => rfl); (case hr => first | (go_simp; done) | (go_simp; rfl)); intro gb108 hg w13 hbox hb; have n0_ := Aside0.mk (below_step bO hb); have n1_ := Aside0.mk (hbox); have n2_ := Aside0.mk ((by rw [hg]; exact (below_size bO) : w.heap.size ≤ gb108)); have n3_ := Aside0.mk ((by rw [hg]; exact (below_size bO) : w.heap.size ≤ gb108)); clear HB; have HB := n0_; have BK108 := n1_; have GW108 := n2_; have GE108 := n3_; clear n0_ n1_ n2_ n3_; clear hb hbox hg; have hcz14_0 : w13.cell? ⟨gb108, 0, none⟩ = some (.int .i64 0) := (blk_cell BK108.out 0).trans rfl; have hcz14_1 : w13.cell? ⟨gb108, 1, none⟩ = some (.string (⟨#[]⟩ : ByteArray)) := (blk_cell BK108.out 1).trans rfl; have hcz14_2 : w13.cell? ⟨gb108, 2, none⟩ = some (.string (⟨#[]⟩ : ByteArray)) := (blk_cell BK108.out 2).trans rfl; have hfz14_0 := blk_frozen BK108.out 0; have hfz14_1 := blk_frozen BK108.out 1; have hfz14_2 := blk_frozen BK108.out 2) | ((with_reducible refine gate_callee (f := 92) rfl ?_); refine goesL_ (some 14) rfl rfl Tryz.func92 (by kernel_rfl) rfl #[.int .i64 ((rd_T33 l0 x7_1).f0)] rfl lR ?_; (with_reducible refine (attr_sign.calls ((rd_T33 l0 x7_1).f0) t109 _ A5.out).mono ?_); rintro e w' ⟨rfl, ⟨nd, rfl⟩⟩; refine ⟨_, rfl, ?_⟩) | ((with_reducible refine gate_callee (f := 52) rfl ?_); refine goesL_ (some 19) rfl rfl Tryz.func52 (by kernel_rfl) rfl #[.string ((rd_T33 l0 x7_1).f1)] rfl lR ?_; (with_reducible refine (attr_Key.calls k1 ((rd_T33 l0 x7_1).f1) true _ A9.out).mono ?_); rintro e w' ⟨rfl, ⟨nd, rfl⟩⟩; refine ⟨_, rfl, ?_⟩) | ((with_reducible refine gate_callee (f := 93) rfl ?_); refine goesL_ (some 24) rfl rfl Tryz.func93 (by kernel_rfl) rfl #[.string ((rd_T33 l0 x7_1).f2)] rfl lR ?_; (with_reducible refine (attr_plain.calls ((rd_T33 l0 x7_1).f2) true _ A11.out).mono ?_); rintro e w15 ⟨rfl, hb⟩; refine ⟨_, rfl, ?_⟩; have n0_ := Aside0.mk (blk_below (g := gb108) (o := .cells #[.int .i64 ((rd_T33 l0 x7_1).f0), .string ((rd_T33 l0 x7_1).f1), .string ((rd_T33 l0 x7_1).f2)] 33 (0, 0)) (by (with_reducible repeat (first | refine blk_drewN ?_ _ | refine blk_drew ?_ | refine blk_alloc ?_ _)); refine blk_put (cs := #[.int .i64 ((rd_T33 l0 x7_1).f0), .string ((rd_T33 l0 x7_1).f1), .string (⟨#[]⟩ : ByteArray)]) ?_ 2 _ rfl; (with_reducible repeat (first | refine blk_drewN ?_ _ | refine blk_drew ?_ | refine blk_alloc ?_ _)); refine blk_put (cs := #[.int .i64 ((rd_T33 l0 x7_1).f0), .string (⟨#[]⟩ : ByteArray), .string (⟨#[]⟩ : ByteArray)]) ?_ 1 _ rfl; (with_reducible repeat (first | refine blk_drewN ?_ _ | refine blk_drew ?_ | refine blk_alloc ?_ _)); refine blk_put (cs := #[.int .i64 0, .string (⟨#[]⟩ : ByteArray), .string (⟨#[]⟩ : ByteArray)]) ?_ 0 _ rfl; (with_reducible repeat (first | refine blk_drewN ?_ _ | refine blk_drew ?_ | refine blk_alloc ?_ _)); exact BK108.out) hb); have n1_ := Aside0.mk (below_step bO hb); clear BK108; clear HB; have BK108 := n0_; have HB := n1_; clear n0_ n1_; (try clear hb); (try clear hb2); (try clear hk); (try clear hi)))
   go_roundg k1
   case measure => have := HK1.out; omega
   case rel => exact ⟨(wrap64 (x7_1 + 1)), sR, H', ⟨by have := HK1.out; omega⟩, ⟨bO⟩⟩
def attr_RightMatch.f (k : Nat) (l0 : List (S33)) : Option (Int) := if (l0.length : Int) > 8 then (some 7) else ((attr_wrong.f k l0).bind fun t112 => (some t112))
set_option maxHeartbeats 8000000 in
set_option maxRecDepth 100000 in
theorem attr_RightMatch.calls (k : Nat) (A0 : Option Addr) (c0 : Nat) (l0 : List (S33)) (r : Int) (w : World) (hr0 : Kd.C k33 w A0 l0.length l0) (hc0 : l0.length ≤ c0) (h : attr_RightMatch.f k l0 = some r) (he_ : EnvW w := by repeat (first | with_reducible assumption | with_reducible exact env_of (by with_reducible assumption) (by with_reducible assumption) | with_reducible exact env_out (by with_reducible assumption) | with_reducible apply env_alloc | with_reducible apply env_drewN | with_reducible apply env_drew | with_reducible refine env_set ?_ (by with_reducible assumption) (by with_reducible assumption))) :
  Calls Tryz.prog 49 #[.slice A0 l0.length c0] w fun e w' => e = .returned (.int .i64 r) ∧ Below w.heap.size w w' := by
 have HE_ := Aside0.mk he_; clear he_; have HR0 := Aside0.mk hr0; have HC0 := Aside0.mk hc0; clear hr0 hc0; have HB := Aside0.mk (Below.refl w.heap.size w)
 have H : (if (l0.length : Int) > 8 then (some 7) else ((attr_wrong.f k l0).bind fun t112 => (some t112))) = some r := h
 clear h; by_cases c2 : (l0.length : Int) > 8
 ·
  rw [if_pos c2] at H
  have c2b0 : decide (8 < (l0.length : Int)) = true := decide_eq_true c2
  have c2b1 : decide (8 < l0.length) = true := decide_eq_true (by omega)
  clear c2
  obtain rfl := Option.some.inj H
  go_enter Tryz.func49, Tryz.ntmps49
  go_wp2; go_ret
  exact ⟨eR, bO⟩
 rw [if_neg c2] at H
 have c2b0 : decide (8 < (l0.length : Int)) = false := decide_eq_false c2
 have c2b1 : decide (8 < l0.length) = false := decide_eq_false (by omega)
 clear c2
 replace H := Option.bind_eq_some_iff.mp H
 obtain ⟨t112, A30, H⟩ := H
 replace H : (some t112) = some r := H
 have A3 := Aside0.mk A30; clear A30
 obtain rfl := Option.some.inj H
 go_enter Tryz.func49, Tryz.ntmps49
 go_wp2_with (first | ((with_reducible refine gate_callee (f := 63) rfl ?_); refine goesL_ (some 7) rfl rfl Tryz.func63 (by kernel_rfl) rfl #[.slice A0 l0.length c0] rfl lR ?_; (with_reducible refine (attr_wrong.calls k _ _ l0 t112 _ ?side1 ?side2 A3.out).mono ?_); (case side1 => repeat (first | exact HR0.out | (with_reducible refine Kd.C_alloc ?_ _) | (with_reducible refine Kd.C_drewN ?_ _) | (with_reducible refine Kd.C_drew ?_))); (case side2 => exact HC0.out); rintro e w4 ⟨rfl, hb⟩; refine ⟨_, rfl, ?_⟩; have n0_ := Aside0.mk (below_step bO hb); clear HB; have HB := n0_; clear n0_; (try clear hb); (try clear hb2); (try clear hk); (try clear hi)))
 go_ret
 exact ⟨eR, bO⟩
def policy_Right_1.f (k : Nat) (a0 : ByteArray) : Option (Bool) := (attr_Key.f k a0).bind fun t113 => (some (!t113))
set_option maxHeartbeats 8000000 in
set_option maxRecDepth 100000 in
theorem policy_Right_1.calls (k : Nat) (a0 : ByteArray) (r : Bool) (w : World) (h : policy_Right_1.f k a0 = some r) :
  Calls Tryz.prog 51 #[.string a0] w fun e w' => e = .returned (.bool r) ∧ Drawn0 w w' := by
 have H : ((attr_Key.f k a0).bind fun t113 => (some (!t113))) = some r := h
 clear h
 replace H := Option.bind_eq_some_iff.mp H
 obtain ⟨t113, A20, H⟩ := H
 replace H : (some (!t113)) = some r := H
 have A2 := Aside0.mk A20; clear A20
 obtain rfl := Option.some.inj H
 go_enter Tryz.func51, Tryz.ntmps51
 go_wp2_with (first | ((with_reducible refine gate_callee (f := 52) rfl ?_); refine goesL_ (some 4) rfl rfl Tryz.func52 (by kernel_rfl) rfl #[.string a0] rfl lR ?_; (with_reducible refine (attr_Key.calls k a0 t113 _ A2.out).mono ?_); rintro e w' ⟨rfl, ⟨nd, rfl⟩⟩; refine ⟨_, rfl, ?_⟩))
 go_ret
 exact ⟨by first | rfl | (simp; done) | (simp [*]; done), by repeat (first | exact Drawn0.refl _ | apply Drawn0.step)⟩
def slices_IndexFunc_string_string.l0 : Nat → List ByteArray → Int → Int → Option (Int)
  | 0, _, _, _ => none
  | k + 1, x0, x7, x8 => if x8 < x7 then (if 0 ≤ x8 then (if x8 < (x0.length : Int) then ((policy_Right_1.f k (rdOf ByteArray.empty x0 x8)).bind fun t115 => (if t115 = true then (some x8) else (slices_IndexFunc_string_string.l0 k x0 x7 (wrap64 (x8 + 1))))) else (none)) else (none)) else (some (-1))
def slices_IndexFunc_string_string.f (k : Nat) (l0 : List ByteArray)  : Option (Int) := slices_IndexFunc_string_string.l0 k l0 (l0.length : Int) 0
set_option maxHeartbeats 8000000 in
set_option maxRecDepth 100000 in
theorem slices_IndexFunc_string_string.calls (k : Nat) (A0 : Option Addr) (c0 : Nat) (l0 : List ByteArray)  (r : Int) (w : World) (hr0 : Kd.C Kd.string w A0 l0.length l0) (hc0 : l0.length ≤ c0) (h : slices_IndexFunc_string_string.f k l0 = some r) :
  Calls Tryz.prog 84 #[.slice A0 l0.length c0, .func (.func 51) #[] #[]] w fun e w' => e = .returned (.int .i64 r) ∧ Drawn0 w w' := by
 have HR0 := Aside0.mk hr0; have HC0 := Aside0.mk hc0; clear hr0 hc0
 have H : (slices_IndexFunc_string_string.l0 k l0 (l0.length : Int) 0) = some r := h
 clear h; have H' := Aside0.mk H; clear H
 go_enter Tryz.func84, Tryz.ntmps84
 go_wp2
 go_loopg [8] k (fun kq v8 w' => ∃ (x8_1 : Int), v8 = .int .i64 x8_1 ∧ Aside0 (slices_IndexFunc_string_string.l0 kq l0 (l0.length : Int) x8_1 = some r) ∧ Aside0 (kq ≤ k) ∧ Drawn0 w w')
 case atStart => exact ⟨(0), sR, H', ⟨Nat.le_refl _⟩, by repeat (first | exact Drawn0.refl _ | apply Drawn0.step)⟩
 case round =>
  clear H'; (try clear p2)
  obtain ⟨x8_1, rfl, HA, HK1, ⟨m1, rfl⟩⟩ := hrel
  cases gk with
  | zero => exact absurd HA.out (by simp [slices_IndexFunc_string_string.l0])
  | succ k1 =>
   have H := HA.out; clear HA
   simp only [slices_IndexFunc_string_string.l0] at H
   by_cases c3 : x8_1 < (l0.length : Int); rotate_left
   ·
    rw [if_neg c3] at H
    have c3b0 : decide (x8_1 < (l0.length : Int)) = false := decide_eq_false c3
    clear c3
    obtain rfl := Option.some.inj H
    go_wp2; go_ret
    exact ⟨by first | rfl | (simp; done) | (simp [*]; done), by repeat (first | exact Drawn0.refl _ | apply Drawn0.step)⟩
   rw [if_pos c3] at H
   have c3b0 : decide (x8_1 < (l0.length : Int)) = true := decide_eq_true c3
   clear c3; by_cases c4 : 0 ≤ x8_1; rotate_left
   · rw [if_neg c4] at H; exact absurd H (by simp)
   rw [if_pos c4] at H
   have c4b0 : decide (0 ≤ x8_1) = true := decide_eq_true c4
   clear c4; by_cases c5 : x8_1 < (l0.length : Int); rotate_left
   · rw [if_neg c5] at H; exact absurd H (by simp)
   rw [if_pos c5] at H
   have c5b0 : decide (x8_1 < (l0.length : Int)) = true := decide_eq_true c5
   clear c5
   replace H := Option.bind_eq_some_iff.mp H
   obtain ⟨t115, A60, H⟩ := H
   replace H : (if t115 = true then (some x8_1) else (slices_IndexFunc_string_string.l0 k1 l0 (l0.length : Int) (wrap64 (x8_1 + 1)))) = some r := H
   have A6 := Aside0.mk A60; clear A60; by_cases c7 : t115 = true
   ·
    subst c7
    have H1 : (some x8_1) = some r := by rw [if_pos rfl] at H; exact H
    clear H; have H := H1; clear H1
    obtain rfl := Option.some.inj H
    have p114 : 0 ≤ (x8_1 : Int) := of_decide_eq_true asm
    have q114 : x8_1 < (l0.length : Int) := of_decide_eq_true asm
    obtain ⟨ad114, e114, hx114_0⟩ := Kd.at_string HR0.out x8_1 p114 q114
    cases e114; replace p114 := eq_true p114; replace q114 := eq_true q114
    go_wp2_with (first | (go_at_call 51; (with_reducible refine (policy_Right_1.calls k1 (rdOf ByteArray.empty l0 x8_1) true _ A6.out).mono ?_); rintro e w' ⟨rfl, ⟨nd, rfl⟩⟩))
    go_ret
    exact ⟨by first | rfl | (simp; done) | (simp [*]; done), by repeat (first | exact Drawn0.refl _ | apply Drawn0.step)⟩
   replace c7 := Bool.eq_false_iff.mpr c7
   subst c7
   have H1 : (slices_IndexFunc_string_string.l0 k1 l0 (l0.length : Int) (wrap64 (x8_1 + 1))) = some r := by rw [if_neg (show ¬ (false = true) by decide)] at H; exact H
   clear H; have H := H1; clear H1; have H' := Aside0.mk H; clear H
   have p114 : 0 ≤ (x8_1 : Int) := of_decide_eq_true asm
   have q114 : x8_1 < (l0.length : Int) := of_decide_eq_true asm
   obtain ⟨ad114, e114, hx114_0⟩ := Kd.at_string HR0.out x8_1 p114 q114
   cases e114; replace p114 := eq_true p114; replace q114 := eq_true q114
   go_wp2_with (first | (go_at_call 51; (with_reducible refine (policy_Right_1.calls k1 (rdOf ByteArray.empty l0 x8_1) false _ A6.out).mono ?_); rintro e w' ⟨rfl, ⟨nd, rfl⟩⟩))
   go_roundg k1
   case measure => have := HK1.out; omega
   case rel => exact ⟨(wrap64 (x8_1 + 1)), sR, H', ⟨by have := HK1.out; omega⟩, by repeat (first | exact Drawn0.refl _ | apply Drawn0.step)⟩
def slices_ContainsFunc_string_string.f (k : Nat) (l0 : List ByteArray)  : Option (Bool) := (slices_IndexFunc_string_string.f k l0).bind fun t116 => (some (decide (t116 ≥ 0)))
set_option maxHeartbeats 8000000 in
set_option maxRecDepth 100000 in
theorem slices_ContainsFunc_string_string.calls (k : Nat) (A0 : Option Addr) (c0 : Nat) (l0 : List ByteArray)  (r : Bool) (w : World) (hr0 : Kd.C Kd.string w A0 l0.length l0) (hc0 : l0.length ≤ c0) (h : slices_ContainsFunc_string_string.f k l0 = some r) :
  Calls Tryz.prog 50 #[.slice A0 l0.length c0, .func (.func 51) #[] #[]] w fun e w' => e = .returned (.bool r) ∧ Drawn0 w w' := by
 have HR0 := Aside0.mk hr0; have HC0 := Aside0.mk hc0; clear hr0 hc0
 have H : ((slices_IndexFunc_string_string.f k l0).bind fun t116 => (some (decide (t116 ≥ 0)))) = some r := h
 clear h
 replace H := Option.bind_eq_some_iff.mp H
 obtain ⟨t116, A30, H⟩ := H
 replace H : (some (decide (t116 ≥ 0))) = some r := H
 have A3 := Aside0.mk A30; clear A30
 obtain rfl := Option.some.inj H
 go_enter Tryz.func50, Tryz.ntmps50
 go_wp2_with (first | ((with_reducible refine gate_callee (f := 84) rfl ?_); refine goesL_ (some 7) rfl rfl Tryz.func84 (by kernel_rfl) rfl #[.slice A0 l0.length c0, .func (.func 51) #[] #[]] rfl lR ?_; (with_reducible refine (slices_IndexFunc_string_string.calls k _ _ l0  t116 _ ?side1 ?side2 A3.out).mono ?_); (case side1 => repeat (first | exact HR0.out | (with_reducible refine Kd.C_alloc ?_ _) | (with_reducible refine Kd.C_drewN ?_ _) | (with_reducible refine Kd.C_drew ?_))); (case side2 => exact HC0.out); rintro e w' ⟨rfl, ⟨nd, rfl⟩⟩; refine ⟨_, rfl, ?_⟩))
 go_ret
 exact ⟨by first | rfl | (simp; done) | (simp [*]; done), by repeat (first | exact Drawn0.refl _ | apply Drawn0.step)⟩
end Go.Proofs.YtkedidjjhhjdbaaGreatDoor.Pr
end
