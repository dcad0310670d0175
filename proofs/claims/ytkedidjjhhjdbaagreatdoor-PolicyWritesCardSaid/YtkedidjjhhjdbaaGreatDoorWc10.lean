import Derived.Test.YtkedidjjhhjdbaaGreatDoorWc0
import Derived.Test.YtkedidjjhhjdbaaGreatDoorWc5
import Derived.Test.YtkedidjjhhjdbaaGreatDoorWc7
import Derived.Test.YtkedidjjhhjdbaaGreatDoorWc9
import Derived.Test.YtkedidjjhhjdbaaGreatDoorWc8
section
namespace Go.Proofs.YtkedidjjhhjdbaaGreatDoor.Pr
open Go.RowKit Go.Proofs.YtkedidjjhhjdbaaGreatDoorW.PrintWords Go.Proofs.YtkedidjjhhjdbaaGreatDoorW.PrintLast Go.Proofs.YtkedidjjhhjdbaaGreatDoorW.PrintMore
attribute [local go_sem] max2_int min2_int max_two min_two max_three min_three max_four min_four strGtr strLeq strGeq
set_option linter.unusedVariables false
set_option linter.unusedSimpArgs false
mutual
def belfryref09_Name.j0 : Nat → ByteArray → Bool → Option (Bool)
  | 0, _, _ => none
  | k + 1, x0, x22 => if x22 = true then (some false) else (belfryref09_Name.l0 k x0 0)
def belfryref09_Name.l0 : Nat → ByteArray → Int → Option (Bool)
  | 0, _, _ => none
  | k + 1, x0, x3 => if x3 < (x0.size : Int) then (if 0 ≤ x3 then (if (bt x0 x3) ≥ 97 then (if (bt x0 x3) ≤ 122 then (belfryref09_Name.l0 k x0 (wrap64 (x3 + 1))) else (if (bt x0 x3) ≥ 48 then (if (bt x0 x3) ≤ 57 then (belfryref09_Name.l0 k x0 (wrap64 (x3 + 1))) else (if ((bt x0 x3) = 45) then (belfryref09_Name.l0 k x0 (wrap64 (x3 + 1))) else (some false))) else (if ((bt x0 x3) = 45) then (belfryref09_Name.l0 k x0 (wrap64 (x3 + 1))) else (some false)))) else (if (bt x0 x3) ≥ 48 then (if (bt x0 x3) ≤ 57 then (belfryref09_Name.l0 k x0 (wrap64 (x3 + 1))) else (if ((bt x0 x3) = 45) then (belfryref09_Name.l0 k x0 (wrap64 (x3 + 1))) else (some false))) else (if ((bt x0 x3) = 45) then (belfryref09_Name.l0 k x0 (wrap64 (x3 + 1))) else (some false)))) else (none)) else (some true)
end
def belfryref09_Name.f (k : Nat) (a0 : ByteArray) : Option (Bool) := if (a0.size : Int) < 1 then (belfryref09_Name.j0 k a0 true) else (if (a0.size : Int) > 32 then (belfryref09_Name.j0 k a0 true) else (if 0 < (a0.size : Int) then (if (bt a0 0) < 97 then (belfryref09_Name.j0 k a0 true) else (belfryref09_Name.j0 k a0 (decide ((bt a0 0) > 122)))) else (none)))
set_option maxHeartbeats 8000000 in
set_option maxRecDepth 100000 in
theorem belfryref09_Name.calls (k : Nat) (a0 : ByteArray) (r : Bool) (w : World) (h : belfryref09_Name.f k a0 = some r) :
  Calls Tryz.prog 53 #[.string a0] w fun e w' => e = .returned (.bool r) ∧ Drawn0 w w' := by
 have H : (if (a0.size : Int) < 1 then (belfryref09_Name.j0 k a0 true) else (if (a0.size : Int) > 32 then (belfryref09_Name.j0 k a0 true) else (if 0 < (a0.size : Int) then (if (bt a0 0) < 97 then (belfryref09_Name.j0 k a0 true) else (belfryref09_Name.j0 k a0 (decide ((bt a0 0) > 122)))) else (none)))) = some r := h
 clear h; have HC2 := Aside0.mk H; clear H
 go_enter Tryz.func53, Tryz.ntmps53
 go_upto_region 1 with (fail)
 go_cut [22] (fun v22 wc => ∃ (kq : Nat) (x22_1 : Bool), v22 = .bool x22_1 ∧ Aside0 (belfryref09_Name.j0 kq a0 x22_1 = some r) ∧ Aside0 (kq ≤ k) ∧ Drawn0 w wc)
 case first =>
  have H := HC2.out; clear HC2; by_cases c3 : (a0.size : Int) < 1
  ·
   rw [if_pos c3] at H
   have c3b0 : decide ((a0.size : Int) < 1) = true := decide_eq_true c3
   have c3b1 : decide (a0.size < 1) = true := decide_eq_true (by omega)
   clear c3
   (first | rw [c3b0] | (simp only [i64_w, i32_w]; rw [c3b0]) | skip)
   have H' := Aside0.mk H; clear H; go_wp2
   go_meet
   case rel => exact ⟨_, (true), sR, H', ⟨by first | omega | exact Nat.le_refl _⟩, dR⟩
  rw [if_neg c3] at H
  have c3b0 : decide ((a0.size : Int) < 1) = false := decide_eq_false c3
  have c3b1 : decide (a0.size < 1) = false := decide_eq_false (by omega)
  clear c3
  (first | rw [c3b0] | (simp only [i64_w, i32_w]; rw [c3b0]) | skip)
  by_cases c4 : (a0.size : Int) > 32
  ·
   rw [if_pos c4] at H
   have c4b0 : decide (32 < (a0.size : Int)) = true := decide_eq_true c4
   have c4b1 : decide (32 < a0.size) = true := decide_eq_true (by omega)
   clear c4; have H' := Aside0.mk H; clear H; go_wp2
   go_meet
   case rel => exact ⟨_, (true), sR, H', ⟨by first | omega | exact Nat.le_refl _⟩, dR⟩
  rw [if_neg c4] at H
  have c4b0 : decide (32 < (a0.size : Int)) = false := decide_eq_false c4
  have c4b1 : decide (32 < a0.size) = false := decide_eq_false (by omega)
  clear c4; by_cases c5 : 0 < (a0.size : Int); rotate_left
  · rw [if_neg c5] at H; exact absurd H (by simp)
  rw [if_pos c5] at H
  have c5b0 : decide (0 < (a0.size : Int)) = true := decide_eq_true c5
  have c5b1 : decide (0 < a0.size) = true := decide_eq_true (by omega)
  clear c5; by_cases c7 : (bt a0 0) < 97
  ·
   rw [if_pos c7] at H
   have c7b0 : decide ((bt a0 0) < 97) = true := decide_eq_true c7
   clear c7; have H' := Aside0.mk H; clear H
   have p6 : 0 ≤ (0 : Int) := (by omega)
   have q6 : 0 < a0.size := (by have : (0 : Int) < (a0.size : Int) := of_decide_eq_true asm; omega)
   have hx6 : ∀ h : 0 < a0.size, ((a0[0]'h).toNat : Int) = bt a0 0 := bt_at a0 0
   clear p6
   have qi6 : (0 < (a0.size : Int)) = True := eq_true (of_decide_eq_true asm)
   replace q6 := eq_true q6; go_wp2
   go_meet
   case rel => exact ⟨_, (true), sR, H', ⟨by first | omega | exact Nat.le_refl _⟩, dR⟩
  rw [if_neg c7] at H
  have c7b0 : decide ((bt a0 0) < 97) = false := decide_eq_false c7
  clear c7; have H' := Aside0.mk H; clear H
  have p6 : 0 ≤ (0 : Int) := (by omega)
  have q6 : 0 < a0.size := (by have : (0 : Int) < (a0.size : Int) := of_decide_eq_true asm; omega)
  have hx6 : ∀ h : 0 < a0.size, ((a0[0]'h).toNat : Int) = bt a0 0 := bt_at a0 0
  clear p6
  have qi6 : (0 < (a0.size : Int)) = True := eq_true (of_decide_eq_true asm)
  replace q6 := eq_true q6
  have p8 : 0 ≤ (0 : Int) := (by omega)
  have q8 : 0 < a0.size := (by have : (0 : Int) < (a0.size : Int) := of_decide_eq_true asm; omega)
  have hx8 : ∀ h : 0 < a0.size, ((a0[0]'h).toNat : Int) = bt a0 0 := bt_at a0 0
  clear p8
  have qi8 : (0 < (a0.size : Int)) = True := eq_true (of_decide_eq_true asm)
  replace q8 := eq_true q8; go_wp2
  go_meet
  case rel => exact ⟨_, (decide ((bt a0 0) > 122)), sR, H', ⟨by first | omega | exact Nat.le_refl _⟩, dR⟩
 case rest =>
  clear HC2; (try clear p2); (try clear c3); (try clear c3b0); (try clear c3b1); (try clear c4); (try clear c4b0); (try clear c4b1); (try clear c5); (try clear c5b0); (try clear c5b1); (try clear p6); (try clear q6); (try clear hx6); (try clear qi6); (try clear c7); (try clear c7b0); (try clear p8); (try clear q8); (try clear hx8); (try clear qi8); (try clear p6); (try clear p8); (try clear q6); (try clear q8)
  obtain ⟨kq, x22_1, rfl, HA, HJ1, ⟨mc1, rfl⟩⟩ := hcut
  cases kq with
  | zero => exact absurd HA.out (by simp [belfryref09_Name.j0])
  | succ kj1 =>
   have H := HA.out; clear HA
   simp only [belfryref09_Name.j0] at H
   by_cases c9 : x22_1 = true
   ·
    subst c9
    have H1 : (some false) = some r := by rw [if_pos rfl] at H; exact H
    clear H; have H := H1; clear H1
    obtain rfl := Option.some.inj H
    go_wp2; go_ret
    exact ⟨sR, dR⟩
   replace c9 := Bool.eq_false_iff.mpr c9
   subst c9
   have H1 : (belfryref09_Name.l0 kj1 a0 0) = some r := by rw [if_neg (show ¬ (false = true) by decide)] at H; exact H
   clear H; have H := H1; clear H1; have H' := Aside0.mk H; clear H; go_wp2
   go_loopg [3] kj1 (fun kq v3 w' => ∃ (x3_2 : Int), v3 = .int .i64 x3_2 ∧ Aside0 (belfryref09_Name.l0 kq a0 x3_2 = some r) ∧ Aside0 (kq ≤ kj1) ∧ Drawn0 w w')
   case atStart => exact ⟨(0), sR, H', ⟨Nat.le_refl _⟩, dR⟩
   case round =>
    clear H'; (try clear c1); (try clear p2); (try clear c3); (try clear c3b0); (try clear c3b1); (try clear c4); (try clear c4b0); (try clear c4b1); (try clear c5); (try clear c5b0); (try clear c5b1); (try clear p6); (try clear q6); (try clear hx6); (try clear qi6); (try clear c7); (try clear c7b0); (try clear p8); (try clear q8); (try clear hx8); (try clear qi8); (try clear c9); (try clear p2); (try clear p6); (try clear p8); (try clear q6); (try clear q8)
    obtain ⟨x3_2, rfl, HA, HK2, ⟨m2, rfl⟩⟩ := hrel
    cases gk with
    | zero => exact absurd HA.out (by simp [belfryref09_Name.l0])
    | succ k2 =>
     have H := HA.out; clear HA
     simp only [belfryref09_Name.l0] at H
     by_cases c10 : x3_2 < (a0.size : Int); rotate_left
     ·
      rw [if_neg c10] at H
      have c10b0 : decide (x3_2 < (a0.size : Int)) = false := decide_eq_false c10
      clear c10
      obtain rfl := Option.some.inj H
      go_wp2; go_ret
      exact ⟨sR, dR⟩
     rw [if_pos c10] at H
     have c10b0 : decide (x3_2 < (a0.size : Int)) = true := decide_eq_true c10
     clear c10; by_cases c11 : 0 ≤ x3_2; rotate_left
     · rw [if_neg c11] at H; exact absurd H (by simp)
     rw [if_pos c11] at H
     have c11b0 : decide (0 ≤ x3_2) = true := decide_eq_true c11
     clear c11; by_cases c13 : (bt a0 x3_2) ≥ 97; rotate_left
     ·
      rw [if_neg c13] at H
      have c13b0 : decide (97 ≤ (bt a0 x3_2)) = false := decide_eq_false c13
      clear c13; by_cases c19 : (bt a0 x3_2) ≥ 48; rotate_left
      ·
       rw [if_neg c19] at H
       have c19b0 : decide (48 ≤ (bt a0 x3_2)) = false := decide_eq_false c19
       clear c19; by_cases c22 : ((bt a0 x3_2) = 45); rotate_left
       ·
        rw [if_neg c22] at H
        have c22b0 : ((bt a0 x3_2) == 45) = false := beq_eq_false_iff_ne.mpr c22
        have c22b1 : ((bt a0 x3_2) != 45) = true := bne_iff_ne.mpr c22
        obtain rfl := Option.some.inj H
        have p12 : 0 ≤ (x3_2 : Int) := of_decide_eq_true asm
        have q12 : x3_2 < (a0.size : Int) := of_decide_eq_true asm
        have hx12 := bt_at a0 x3_2; replace p12 := eq_true p12; replace q12 := eq_true q12; go_wp2; go_ret
        exact ⟨sR, dR⟩
       rw [if_pos c22] at H
       have c22b0 : ((bt a0 x3_2) == 45) = true := beq_iff_eq.mpr c22
       have c22b1 : ((bt a0 x3_2) != 45) = false := bne_eq_false_iff_eq.mpr c22
       clear c22; have H' := Aside0.mk H; clear H
       have p12 : 0 ≤ (x3_2 : Int) := of_decide_eq_true asm
       have q12 : x3_2 < (a0.size : Int) := of_decide_eq_true asm
       have hx12 := bt_at a0 x3_2; replace p12 := eq_true p12; replace q12 := eq_true q12; go_wp2
       go_roundg k2
       case measure => have := HJ1.out; have := HK2.out; omega
       case rel => exact ⟨(wrap64 (x3_2 + 1)), sR, H', ⟨by have := HJ1.out; have := HK2.out; omega⟩, dR⟩
      rw [if_pos c19] at H
      have c19b0 : decide (48 ≤ (bt a0 x3_2)) = true := decide_eq_true c19
      clear c19; by_cases c20 : (bt a0 x3_2) ≤ 57
      ·
       rw [if_pos c20] at H
       have c20b0 : decide ((bt a0 x3_2) ≤ 57) = true := decide_eq_true c20
       clear c20; have H' := Aside0.mk H; clear H
       have p12 : 0 ≤ (x3_2 : Int) := of_decide_eq_true asm
       have q12 : x3_2 < (a0.size : Int) := of_decide_eq_true asm
       have hx12 := bt_at a0 x3_2; replace p12 := eq_true p12; replace q12 := eq_true q12; go_wp2
       go_roundg k2
       case measure => have := HJ1.out; have := HK2.out; omega
       case rel => exact ⟨(wrap64 (x3_2 + 1)), sR, H', ⟨by have := HJ1.out; have := HK2.out; omega⟩, dR⟩
      rw [if_neg c20] at H
      have c20b0 : decide ((bt a0 x3_2) ≤ 57) = false := decide_eq_false c20
      clear c20; by_cases c21 : ((bt a0 x3_2) = 45); rotate_left
      ·
       rw [if_neg c21] at H
       have c21b0 : ((bt a0 x3_2) == 45) = false := beq_eq_false_iff_ne.mpr c21
       have c21b1 : ((bt a0 x3_2) != 45) = true := bne_iff_ne.mpr c21
       obtain rfl := Option.some.inj H
       have p12 : 0 ≤ (x3_2 : Int) := of_decide_eq_true asm
       have q12 : x3_2 < (a0.size : Int) := of_decide_eq_true asm
       have hx12 := bt_at a0 x3_2; replace p12 := eq_true p12; replace q12 := eq_true q12; go_wp2; go_ret
       exact ⟨sR, dR⟩
      rw [if_pos c21] at H
      have c21b0 : ((bt a0 x3_2) == 45) = true := beq_iff_eq.mpr c21
      have c21b1 : ((bt a0 x3_2) != 45) = false := bne_eq_false_iff_eq.mpr c21
      clear c21; have H' := Aside0.mk H; clear H
      have p12 : 0 ≤ (x3_2 : Int) := of_decide_eq_true asm
      have q12 : x3_2 < (a0.size : Int) := of_decide_eq_true asm
      have hx12 := bt_at a0 x3_2; replace p12 := eq_true p12; replace q12 := eq_true q12; go_wp2
      go_roundg k2
      case measure => have := HJ1.out; have := HK2.out; omega
      case rel => exact ⟨(wrap64 (x3_2 + 1)), sR, H', ⟨by have := HJ1.out; have := HK2.out; omega⟩, dR⟩
     rw [if_pos c13] at H
     have c13b0 : decide (97 ≤ (bt a0 x3_2)) = true := decide_eq_true c13
     clear c13; by_cases c14 : (bt a0 x3_2) ≤ 122
     ·
      rw [if_pos c14] at H
      have c14b0 : decide ((bt a0 x3_2) ≤ 122) = true := decide_eq_true c14
      clear c14; have H' := Aside0.mk H; clear H
      have p12 : 0 ≤ (x3_2 : Int) := of_decide_eq_true asm
      have q12 : x3_2 < (a0.size : Int) := of_decide_eq_true asm
      have hx12 := bt_at a0 x3_2; replace p12 := eq_true p12; replace q12 := eq_true q12; go_wp2
      go_roundg k2
      case measure => have := HJ1.out; have := HK2.out; omega
      case rel => exact ⟨(wrap64 (x3_2 + 1)), sR, H', ⟨by have := HJ1.out; have := HK2.out; omega⟩, dR⟩
     rw [if_neg c14] at H
     have c14b0 : decide ((bt a0 x3_2) ≤ 122) = false := decide_eq_false c14
     clear c14; by_cases c15 : (bt a0 x3_2) ≥ 48; rotate_left
     ·
      rw [if_neg c15] at H
      have c15b0 : decide (48 ≤ (bt a0 x3_2)) = false := decide_eq_false c15
      clear c15; by_cases c18 : ((bt a0 x3_2) = 45); rotate_left
      ·
       rw [if_neg c18] at H
       have c18b0 : ((bt a0 x3_2) == 45) = false := beq_eq_false_iff_ne.mpr c18
       have c18b1 : ((bt a0 x3_2) != 45) = true := bne_iff_ne.mpr c18
       obtain rfl := Option.some.inj H
       have p12 : 0 ≤ (x3_2 : Int) := of_decide_eq_true asm
       have q12 : x3_2 < (a0.size : Int) := of_decide_eq_true asm
       have hx12 := bt_at a0 x3_2; replace p12 := eq_true p12; replace q12 := eq_true q12; go_wp2; go_ret
       exact ⟨sR, dR⟩
      rw [if_pos c18] at H
      have c18b0 : ((bt a0 x3_2) == 45) = true := beq_iff_eq.mpr c18
      have c18b1 : ((bt a0 x3_2) != 45) = false := bne_eq_false_iff_eq.mpr c18
      clear c18; have H' := Aside0.mk H; clear H
      have p12 : 0 ≤ (x3_2 : Int) := of_decide_eq_true asm
      have q12 : x3_2 < (a0.size : Int) := of_decide_eq_true asm
      have hx12 := bt_at a0 x3_2; replace p12 := eq_true p12; replace q12 := eq_true q12; go_wp2
      go_roundg k2
      case measure => have := HJ1.out; have := HK2.out; omega
      case rel => exact ⟨(wrap64 (x3_2 + 1)), sR, H', ⟨by have := HJ1.out; have := HK2.out; omega⟩, dR⟩
     rw [if_pos c15] at H
     have c15b0 : decide (48 ≤ (bt a0 x3_2)) = true := decide_eq_true c15
     clear c15; by_cases c16 : (bt a0 x3_2) ≤ 57
     ·
      rw [if_pos c16] at H
      have c16b0 : decide ((bt a0 x3_2) ≤ 57) = true := decide_eq_true c16
      clear c16; have H' := Aside0.mk H; clear H
      have p12 : 0 ≤ (x3_2 : Int) := of_decide_eq_true asm
      have q12 : x3_2 < (a0.size : Int) := of_decide_eq_true asm
      have hx12 := bt_at a0 x3_2; replace p12 := eq_true p12; replace q12 := eq_true q12; go_wp2
      go_roundg k2
      case measure => have := HJ1.out; have := HK2.out; omega
      case rel => exact ⟨(wrap64 (x3_2 + 1)), sR, H', ⟨by have := HJ1.out; have := HK2.out; omega⟩, dR⟩
     rw [if_neg c16] at H
     have c16b0 : decide ((bt a0 x3_2) ≤ 57) = false := decide_eq_false c16
     clear c16; by_cases c17 : ((bt a0 x3_2) = 45); rotate_left
     ·
      rw [if_neg c17] at H
      have c17b0 : ((bt a0 x3_2) == 45) = false := beq_eq_false_iff_ne.mpr c17
      have c17b1 : ((bt a0 x3_2) != 45) = true := bne_iff_ne.mpr c17
      obtain rfl := Option.some.inj H
      have p12 : 0 ≤ (x3_2 : Int) := of_decide_eq_true asm
      have q12 : x3_2 < (a0.size : Int) := of_decide_eq_true asm
      have hx12 := bt_at a0 x3_2; replace p12 := eq_true p12; replace q12 := eq_true q12; go_wp2; go_ret
      exact ⟨sR, dR⟩
     rw [if_pos c17] at H
     have c17b0 : ((bt a0 x3_2) == 45) = true := beq_iff_eq.mpr c17
     have c17b1 : ((bt a0 x3_2) != 45) = false := bne_eq_false_iff_eq.mpr c17
     clear c17; have H' := Aside0.mk H; clear H
     have p12 : 0 ≤ (x3_2 : Int) := of_decide_eq_true asm
     have q12 : x3_2 < (a0.size : Int) := of_decide_eq_true asm
     have hx12 := bt_at a0 x3_2; replace p12 := eq_true p12; replace q12 := eq_true q12; go_wp2
     go_roundg k2
     case measure => have := HJ1.out; have := HK2.out; omega
     case rel => exact ⟨(wrap64 (x3_2 + 1)), sR, H', ⟨by have := HJ1.out; have := HK2.out; omega⟩, dR⟩
end Go.Proofs.YtkedidjjhhjdbaaGreatDoor.Pr
end
section
namespace Go.Proofs.YtkedidjjhhjdbaaGreatDoor.Pr
open Go.RowKit Go.Proofs.YtkedidjjhhjdbaaGreatDoorW.PrintWords Go.Proofs.YtkedidjjhhjdbaaGreatDoorW.PrintLast Go.Proofs.YtkedidjjhhjdbaaGreatDoorW.PrintMore
attribute [local go_sem] max2_int min2_int max_two min_two max_three min_three max_four min_four strGtr strLeq strGeq
set_option linter.unusedVariables false
set_option linter.unusedSimpArgs false
mutual
def belfryref04_eachMatch.l0 : Nat → List (S33) → Int → Option (Int)
  | 0, _, _ => none
  | k + 1, x0, x3 => if x3 < (x0.length : Int) then (if 0 ≤ x3 then (if ((rd_T33 x0 x3).f0) < 1 then (belfryref04_eachMatch.j1 k x0 x3 true) else (belfryref04_eachMatch.j1 k x0 x3 (decide (((rd_T33 x0 x3).f0) > 4)))) else (none)) else (some 0)
def belfryref04_eachMatch.j1 : Nat → List (S33) → Int → Bool → Option (Int)
  | 0, _, _, _ => none
  | k + 1, x0, x3, x10 => if x10 = true then (some 42) else (if 0 ≤ x3 then (if x3 < (x0.length : Int) then ((belfryref04_Key.f k ((rd_T33 x0 x3).f1)).bind fun t246 => (if t246 = true then ((belfryref04_text.f k ((rd_T33 x0 x3).f2)).bind fun t248 => (if t248 = true then (belfryref04_eachMatch.l0 k x0 (wrap64 (x3 + 1))) else (some 41))) else (some 40))) else (none)) else (none))
end
def belfryref04_eachMatch.f (k : Nat) (l0 : List (S33)) : Option (Int) := belfryref04_eachMatch.l0 k l0 0
set_option maxHeartbeats 8000000 in
set_option maxRecDepth 100000 in
theorem belfryref04_eachMatch.calls (k : Nat) (A0 : Option Addr) (c0 : Nat) (l0 : List (S33)) (r : Int) (w : World) (hr0 : Kd.C k33 w A0 l0.length l0) (hc0 : l0.length ≤ c0) (h : belfryref04_eachMatch.f k l0 = some r) :
  Calls Tryz.prog 68 #[.slice A0 l0.length c0] w fun e w' => e = .returned (.int .i64 r) ∧ Drawn0 w w' := by
 have HR0 := Aside0.mk hr0; have HC0 := Aside0.mk hc0; clear hr0 hc0
 have H : (belfryref04_eachMatch.l0 k l0 0) = some r := h
 clear h; have H' := Aside0.mk H; clear H
 go_enter Tryz.func68, Tryz.ntmps68
 go_wp2
 go_loopg [3] k (fun kq v3 w' => ∃ (x3_1 : Int), v3 = .int .i64 x3_1 ∧ Aside0 (belfryref04_eachMatch.l0 kq l0 x3_1 = some r) ∧ Aside0 (kq ≤ k) ∧ Drawn0 w w')
 case atStart => exact ⟨(0), sR, H', ⟨Nat.le_refl _⟩, dR⟩
 case round =>
  clear H'
  obtain ⟨x3_1, rfl, HA, HK1, ⟨m1, rfl⟩⟩ := hrel
  cases gk with
  | zero => exact absurd HA.out (by simp [belfryref04_eachMatch.l0])
  | succ k1 =>
   have H := HA.out; clear HA
   simp only [belfryref04_eachMatch.l0] at H
   by_cases c2 : x3_1 < (l0.length : Int); rotate_left
   ·
    rw [if_neg c2] at H
    have c2b0 : decide (x3_1 < (l0.length : Int)) = false := decide_eq_false c2
    clear c2
    obtain rfl := Option.some.inj H
    go_wp2; go_ret
    exact ⟨sR, dR⟩
   rw [if_pos c2] at H
   have c2b0 : decide (x3_1 < (l0.length : Int)) = true := decide_eq_true c2
   clear c2; have HC3 := Aside0.mk H; clear H
   go_upto_region 4 with (fail)
   go_cut [10] (fun v10 wc => ∃ (kq : Nat) (x10_2 : Bool), v10 = .bool x10_2 ∧ Aside0 (belfryref04_eachMatch.j1 kq l0 x3_1 x10_2 = some r) ∧ Aside0 (kq ≤ k1) ∧ Drawn0 w wc)
   case first =>
    have H := HC3.out; clear HC3; by_cases c4 : 0 ≤ x3_1; rotate_left
    · rw [if_neg c4] at H; exact absurd H (by simp)
    rw [if_pos c4] at H
    have c4b0 : decide (0 ≤ x3_1) = true := decide_eq_true c4
    clear c4
    (first | rw [c4b0] | (simp only [i64_w, i32_w]; rw [c4b0]) | skip)
    by_cases c5 : ((rd_T33 l0 x3_1).f0) < 1
    ·
     rw [if_pos c5] at H
     have c5b0 : decide (((rd_T33 l0 x3_1).f0) < 1) = true := decide_eq_true c5
     clear c5; have H' := Aside0.mk H; clear H
     have p243 : 0 ≤ (x3_1 : Int) := of_decide_eq_true asm
     have q243 : x3_1 < (l0.length : Int) := of_decide_eq_true asm
     obtain ⟨ad243, e243, hx243_0, hx243_1, hx243_2⟩ := at_T33 HR0.out x3_1 p243 q243
     cases e243; replace p243 := eq_true p243; replace q243 := eq_true q243; go_wp2
     go_meet
     case rel => exact ⟨_, (true), sR, H', ⟨by have := HK1.out; first | omega | exact Nat.le_refl _⟩, dR⟩
    rw [if_neg c5] at H
    have c5b0 : decide (((rd_T33 l0 x3_1).f0) < 1) = false := decide_eq_false c5
    clear c5; have H' := Aside0.mk H; clear H
    have p243 : 0 ≤ (x3_1 : Int) := of_decide_eq_true asm
    have q243 : x3_1 < (l0.length : Int) := of_decide_eq_true asm
    obtain ⟨ad243, e243, hx243_0, hx243_1, hx243_2⟩ := at_T33 HR0.out x3_1 p243 q243
    cases e243; replace p243 := eq_true p243; replace q243 := eq_true q243
    have p244 : 0 ≤ (x3_1 : Int) := of_decide_eq_true asm
    have q244 : x3_1 < (l0.length : Int) := of_decide_eq_true asm
    obtain ⟨ad244, e244, hx244_0, hx244_1, hx244_2⟩ := at_T33 HR0.out x3_1 p244 q244
    obtain rfl : ad243 = ad244 := (by injection e244)
    replace p244 := eq_true p244; replace q244 := eq_true q244; go_wp2
    go_meet
    case rel => exact ⟨_, (decide (((rd_T33 l0 x3_1).f0) > 4)), sR, H', ⟨by have := HK1.out; first | omega | exact Nat.le_refl _⟩, dR⟩
   case rest =>
    clear HC3; (try clear c2); (try clear c2b0); (try clear p2); (try clear q2); (try clear hx2); (try clear c4); (try clear c4b0); (try clear c5); (try clear c5b0); (try clear hx243_0); (try clear hx243_1); (try clear hx243_2); (try clear hx244_0); (try clear hx244_1); (try clear hx244_2); (try clear p243); (try clear p244); (try clear q243); (try clear q244)
    obtain ⟨kq, x10_2, rfl, HA, HJ2, ⟨mc2, rfl⟩⟩ := hcut
    cases kq with
    | zero => exact absurd HA.out (by simp [belfryref04_eachMatch.j1])
    | succ kj2 =>
     have H := HA.out; clear HA
     simp only [belfryref04_eachMatch.j1] at H
     by_cases c6 : x10_2 = true
     ·
      subst c6
      have H1 : (some 42) = some r := by rw [if_pos rfl] at H; exact H
      clear H; have H := H1; clear H1
      obtain rfl := Option.some.inj H
      go_wp2; go_ret
      exact ⟨sR, dR⟩
     replace c6 := Bool.eq_false_iff.mpr c6
     subst c6
     have H1 : (if 0 ≤ x3_1 then (if x3_1 < (l0.length : Int) then ((belfryref04_Key.f kj2 ((rd_T33 l0 x3_1).f1)).bind fun t246 => (if t246 = true then ((belfryref04_text.f kj2 ((rd_T33 l0 x3_1).f2)).bind fun t248 => (if t248 = true then (belfryref04_eachMatch.l0 kj2 l0 (wrap64 (x3_1 + 1))) else (some 41))) else (some 40))) else (none)) else (none)) = some r := by rw [if_neg (show ¬ (false = true) by decide)] at H; exact H
     clear H; have H := H1; clear H1; by_cases c7 : 0 ≤ x3_1; rotate_left
     · rw [if_neg c7] at H; exact absurd H (by simp)
     rw [if_pos c7] at H
     have c7b0 : decide (0 ≤ x3_1) = true := decide_eq_true c7
     clear c7; by_cases c8 : x3_1 < (l0.length : Int); rotate_left
     · rw [if_neg c8] at H; exact absurd H (by simp)
     rw [if_pos c8] at H
     have c8b0 : decide (x3_1 < (l0.length : Int)) = true := decide_eq_true c8
     clear c8
     replace H := Option.bind_eq_some_iff.mp H
     obtain ⟨t246, A90, H⟩ := H
     replace H : (if t246 = true then ((belfryref04_text.f kj2 ((rd_T33 l0 x3_1).f2)).bind fun t248 => (if t248 = true then (belfryref04_eachMatch.l0 kj2 l0 (wrap64 (x3_1 + 1))) else (some 41))) else (some 40)) = some r := H
     have A9 := Aside0.mk A90; clear A90; by_cases c10 : t246 = true; rotate_left
     ·
      replace c10 := Bool.eq_false_iff.mpr c10
      subst c10
      have H1 : (some 40) = some r := by rw [if_neg (show ¬ (false = true) by decide)] at H; exact H
      clear H; have H := H1; clear H1
      obtain rfl := Option.some.inj H
      have p245 : 0 ≤ (x3_1 : Int) := of_decide_eq_true asm
      have q245 : x3_1 < (l0.length : Int) := of_decide_eq_true asm
      obtain ⟨ad245, e245, hx245_0, hx245_1, hx245_2⟩ := at_T33 HR0.out x3_1 p245 q245
      cases e245; replace p245 := eq_true p245; replace q245 := eq_true q245
      go_wp2_with (first | ((with_reducible refine gate_callee (f := 55) rfl ?_); refine goesL_ (some 31) rfl rfl Tryz.func55 (by kernel_rfl) rfl #[.string ((rd_T33 l0 x3_1).f1)] rfl lR ?_; (with_reducible refine (belfryref04_Key.calls kj2 ((rd_T33 l0 x3_1).f1) false _ A9.out).mono ?_); rintro e w' ⟨rfl, ⟨nd, rfl⟩⟩; refine ⟨_, rfl, ?_⟩))
      go_ret
      exact ⟨sR, dR⟩
     subst c10
     have H1 : ((belfryref04_text.f kj2 ((rd_T33 l0 x3_1).f2)).bind fun t248 => (if t248 = true then (belfryref04_eachMatch.l0 kj2 l0 (wrap64 (x3_1 + 1))) else (some 41))) = some r := by rw [if_pos rfl] at H; exact H
     clear H; have H := H1; clear H1
     replace H := Option.bind_eq_some_iff.mp H
     obtain ⟨t248, A110, H⟩ := H
     replace H : (if t248 = true then (belfryref04_eachMatch.l0 kj2 l0 (wrap64 (x3_1 + 1))) else (some 41)) = some r := H
     have A11 := Aside0.mk A110; clear A110; by_cases c12 : t248 = true; rotate_left
     ·
      replace c12 := Bool.eq_false_iff.mpr c12
      subst c12
      have H1 : (some 41) = some r := by rw [if_neg (show ¬ (false = true) by decide)] at H; exact H
      clear H; have H := H1; clear H1
      obtain rfl := Option.some.inj H
      have p245 : 0 ≤ (x3_1 : Int) := of_decide_eq_true asm
      have q245 : x3_1 < (l0.length : Int) := of_decide_eq_true asm
      obtain ⟨ad245, e245, hx245_0, hx245_1, hx245_2⟩ := at_T33 HR0.out x3_1 p245 q245
      cases e245; replace p245 := eq_true p245; replace q245 := eq_true q245
      go_wp2_with (first | ((with_reducible refine gate_callee (f := 55) rfl ?_); refine goesL_ (some 31) rfl rfl Tryz.func55 (by kernel_rfl) rfl #[.string ((rd_T33 l0 x3_1).f1)] rfl lR ?_; (with_reducible refine (belfryref04_Key.calls kj2 ((rd_T33 l0 x3_1).f1) true _ A9.out).mono ?_); rintro e w' ⟨rfl, ⟨nd, rfl⟩⟩; refine ⟨_, rfl, ?_⟩; have p247 : 0 ≤ (x3_1 : Int) := of_decide_eq_true asm; have q247 : x3_1 < (l0.length : Int) := of_decide_eq_true asm; obtain ⟨ad247, e247, hx247_0, hx247_1, hx247_2⟩ := at_T33 HR0.out x3_1 p247 q247; obtain rfl : ad245 = ad247 := (by injection e247); replace p247 := eq_true p247; replace q247 := eq_true q247) | ((with_reducible refine gate_callee (f := 97) rfl ?_); refine goesL_ (some 39) rfl rfl Tryz.func97 (by kernel_rfl) rfl #[.string ((rd_T33 l0 x3_1).f2)] rfl lR ?_; (with_reducible refine (belfryref04_text.calls kj2 ((rd_T33 l0 x3_1).f2) false _ A11.out).mono ?_); rintro e w' ⟨rfl, ⟨nd, rfl⟩⟩; refine ⟨_, rfl, ?_⟩))
      go_ret
      exact ⟨sR, dR⟩
     subst c12
     have H1 : (belfryref04_eachMatch.l0 kj2 l0 (wrap64 (x3_1 + 1))) = some r := by rw [if_pos rfl] at H; exact H
     clear H; have H := H1; clear H1; have H' := Aside0.mk H; clear H
     have p245 : 0 ≤ (x3_1 : Int) := of_decide_eq_true asm
     have q245 : x3_1 < (l0.length : Int) := of_decide_eq_true asm
     obtain ⟨ad245, e245, hx245_0, hx245_1, hx245_2⟩ := at_T33 HR0.out x3_1 p245 q245
     cases e245; replace p245 := eq_true p245; replace q245 := eq_true q245
     go_wp2_with (first | ((with_reducible refine gate_callee (f := 55) rfl ?_); refine goesL_ (some 31) rfl rfl Tryz.func55 (by kernel_rfl) rfl #[.string ((rd_T33 l0 x3_1).f1)] rfl lR ?_; (with_reducible refine (belfryref04_Key.calls kj2 ((rd_T33 l0 x3_1).f1) true _ A9.out).mono ?_); rintro e w' ⟨rfl, ⟨nd, rfl⟩⟩; refine ⟨_, rfl, ?_⟩; have p247 : 0 ≤ (x3_1 : Int) := of_decide_eq_true asm; have q247 : x3_1 < (l0.length : Int) := of_decide_eq_true asm; obtain ⟨ad247, e247, hx247_0, hx247_1, hx247_2⟩ := at_T33 HR0.out x3_1 p247 q247; obtain rfl : ad245 = ad247 := (by injection e247); replace p247 := eq_true p247; replace q247 := eq_true q247) | ((with_reducible refine gate_callee (f := 97) rfl ?_); refine goesL_ (some 39) rfl rfl Tryz.func97 (by kernel_rfl) rfl #[.string ((rd_T33 l0 x3_1).f2)] rfl lR ?_; (with_reducible refine (belfryref04_text.calls kj2 ((rd_T33 l0 x3_1).f2) true _ A11.out).mono ?_); rintro e w' ⟨rfl, ⟨nd, rfl⟩⟩; refine ⟨_, rfl, ?_⟩))
     go_roundg kj2
     case measure => have := HK1.out; have := HJ2.out; omega
     case rel => exact ⟨(wrap64 (x3_1 + 1)), sR, H', ⟨by have := HK1.out; have := HJ2.out; omega⟩, dR⟩
def belfryref04_RightMatch.f (k : Nat) (l0 : List (S33)) : Option (Int) := if (l0.length : Int) > 8 then (some 7) else ((belfryref04_eachMatch.f k l0).bind fun t249 => (some t249))
set_option maxHeartbeats 8000000 in
set_option maxRecDepth 100000 in
theorem belfryref04_RightMatch.calls (k : Nat) (A0 : Option Addr) (c0 : Nat) (l0 : List (S33)) (r : Int) (w : World) (hr0 : Kd.C k33 w A0 l0.length l0) (hc0 : l0.length ≤ c0) (h : belfryref04_RightMatch.f k l0 = some r) :
  Calls Tryz.prog 54 #[.slice A0 l0.length c0] w fun e w' => e = .returned (.int .i64 r) ∧ Drawn0 w w' := by
 have HR0 := Aside0.mk hr0; have HC0 := Aside0.mk hc0; clear hr0 hc0
 have H : (if (l0.length : Int) > 8 then (some 7) else ((belfryref04_eachMatch.f k l0).bind fun t249 => (some t249))) = some r := h
 clear h; by_cases c2 : (l0.length : Int) > 8
 ·
  rw [if_pos c2] at H
  have c2b0 : decide (8 < (l0.length : Int)) = true := decide_eq_true c2
  have c2b1 : decide (8 < l0.length) = true := decide_eq_true (by omega)
  clear c2
  obtain rfl := Option.some.inj H
  go_enter Tryz.func54, Tryz.ntmps54
  go_wp2; go_ret
  exact ⟨sR, dR⟩
 rw [if_neg c2] at H
 have c2b0 : decide (8 < (l0.length : Int)) = false := decide_eq_false c2
 have c2b1 : decide (8 < l0.length) = false := decide_eq_false (by omega)
 clear c2
 replace H := Option.bind_eq_some_iff.mp H
 obtain ⟨t249, A30, H⟩ := H
 replace H : (some t249) = some r := H
 have A3 := Aside0.mk A30; clear A30
 obtain rfl := Option.some.inj H
 go_enter Tryz.func54, Tryz.ntmps54
 go_wp2_with (first | ((with_reducible refine gate_callee (f := 68) rfl ?_); refine goesL_ (some 7) rfl rfl Tryz.func68 (by kernel_rfl) rfl #[.slice A0 l0.length c0] rfl lR ?_; (with_reducible refine (belfryref04_eachMatch.calls k _ _ l0 t249 _ ?side1 ?side2 A3.out).mono ?_); (case side1 => repeat (first | exact HR0.out | (with_reducible refine Kd.C_alloc ?_ _) | (with_reducible refine Kd.C_drewN ?_ _) | (with_reducible refine Kd.C_drew ?_))); (case side2 => exact HC0.out); rintro e w' ⟨rfl, ⟨nd, rfl⟩⟩; refine ⟨_, rfl, ?_⟩))
 go_ret
 exact ⟨sR, dR⟩
end Go.Proofs.YtkedidjjhhjdbaaGreatDoor.Pr
end
section
set_option linter.unusedVariables false
set_option linter.unusedSimpArgs false
namespace Go.Proofs.YtkedidjjhhjdbaaGreatDoor.Pr
open Go.RowKit Go.Proofs.YtkedidjjhhjdbaaGreatDoorW.PrintWords Go.Proofs.YtkedidjjhhjdbaaGreatDoorW.PrintLast Go.Proofs.YtkedidjjhhjdbaaGreatDoorW.PrintMore
def Ev {α : Type} (f : Nat → Option α) (v : α) : Prop := ∃ K, ∀ k, K ≤ k → f k = some v
theorem Ev.bind {α β : Type} {f : Nat → Option α} {g : Nat → α → Option β} {v : α} {r : β} (h : Ev f v) (h' : Ev (fun k => g k v) r) : Ev (fun k => (f k).bind (g k)) r := by
 obtain ⟨K, hK⟩ := h
 obtain ⟨L, hL⟩ := h'
 exact ⟨K + L, fun k hk => by show (f k).bind (g k) = _; rw [hK k (by omega), Option.bind_some]; exact hL k (by omega)⟩
theorem Ev.const {α : Type} {v : α} {f : Option α} (h : f = some v) : Ev (fun _ => f) v := ⟨0, fun _ _ => h⟩
theorem Ev.succ {α : Type} {f g : Nat → Option α} {v : α} (h : Ev g v) (e : ∀ k, f (k + 1) = g k) : Ev f v := by
 obtain ⟨K, hK⟩ := h
 refine ⟨K + 1, fun k hk => ?_⟩
 obtain ⟨k, rfl⟩ : ∃ j, k = j + 1 := ⟨k - 1, by omega⟩
 rw [e]; exact hK k (by omega)
theorem Ev.of_eq {α : Type} {f g : Nat → Option α} {v : α} (h : Ev g v) (e : ∀ k, f k = g k) : Ev f v := by
 obtain ⟨K, hK⟩ := h
 exact ⟨K, fun k hk => (e k).trans (hK k hk)⟩
theorem rd_at33 (l : List S33) (i : Nat) (h : i < l.length) : rd_T33 l (i : Int) = l[i] := by simp [rd_T33, h]
theorem drop_cons33 {α : Type} (l : List α) (i : Nat) (h : i < l.length) : l.drop i = l[i] :: l.drop (i + 1) := List.drop_eq_getElem_cons h
def chN (c : Int) : Bool := (decide (97 ≤ c) && decide (c ≤ 122)) || (decide (48 ≤ c) && decide (c ≤ 57)) || c == 45
def cutN : ByteArray := ⟨#[97, 98, 99, 100, 101, 102, 103, 104, 105, 106, 107, 108, 109, 110, 111, 112, 113, 114, 115, 116, 117, 118, 119, 120, 121, 122, 48, 49, 50, 51, 52, 53, 54, 55, 56, 57, 45]⟩
theorem in_cutN (b : UInt8) : cutN.data.toList.contains b = chN (b.toNat : Int) := by
 have h : ((List.range 256).all fun n => cutN.data.toList.contains (UInt8.ofNat n) == chN ((UInt8.ofNat n).toNat : Int)) = true := by kernel_rfl
 have := List.all_eq_true.1 h b.toNat (List.mem_range.2 (UInt8.toNat_lt b))
 rw [UInt8.ofNat_toNat] at this; exact eq_of_beq this
theorem dropWhile_nil {α : Type} (p : α → Bool) : ∀ l : List α, l.dropWhile p = [] ↔ l.all p = true
 | [] => by simp
 | x :: l => by
  rw [List.dropWhile_cons, List.all_cons]
  cases h : p x with
  | true => simp [dropWhile_nil p l]
  | false => simp
theorem dropWhile_head {α : Type} (p : α → Bool) : ∀ (l : List α) x m, l.dropWhile p = x :: m → p x = false
 | [], x, m, h => by cases h
 | y :: l, x, m, h => by
  rw [List.dropWhile_cons] at h
  cases hp : p y with
  | true => rw [hp, if_pos rfl] at h; exact dropWhile_head p l x m h
  | false => rw [hp, if_neg (by simp)] at h; cases h; exact hp
theorem trimS_nil (l cs : List UInt8) : Lib.trimS l cs = [] ↔ l.all (fun b => cs.contains b) = true := by
 unfold Lib.trimS Lib.trimLeftS
 rw [dropWhile_nil]
 unfold Lib.trimRightS
 rw [List.all_reverse]
 constructor
 rotate_left
 ·
  intro h
  rw [(dropWhile_nil _ _).2 (by rwa [List.all_reverse])]
  rfl
 intro h
 cases hd : l.reverse.dropWhile (fun b => cs.contains b) with
 | nil =>
  have := (dropWhile_nil _ _).1 hd
  rwa [List.all_reverse] at this
 | cons x m =>
  have := dropWhile_head _ _ _ _ hd
  have h2 : ((x :: m).all fun b => cs.contains b) = true := by rw [← hd]; exact h
  rw [List.all_cons, this] at h2; cases h2
def nameB (s : ByteArray) : Bool := decide (1 ≤ s.size) && decide (s.size ≤ 32) && (decide (97 ≤ bt s 0) && decide (bt s 0 ≤ 122)) && s.data.toList.all (fun b => chN (b.toNat : Int))
theorem name_eq (s : ByteArray) : policy_name.f s = some (nameB s) := by
 unfold policy_name.f nameB
 by_cases h0 : s.size = 0
 · rw [if_pos (toList_nil.2 h0)]; simp [h0]
 rw [if_neg (fun h => h0 (toList_nil.1 h)), decide_eq_true (show 1 ≤ s.size by omega)]
 by_cases h32 : (s.size : Int) > 32
 · rw [if_pos h32, decide_eq_false (show ¬ s.size ≤ 32 by omega)]; rfl
 rw [if_neg h32, decide_eq_true (show s.size ≤ 32 by omega), if_pos (by omega)]
 by_cases ha : bt s 0 < 97
 · rw [if_pos ha, decide_eq_false (show ¬ 97 ≤ bt s 0 by omega)]; rfl
 rw [if_neg ha, decide_eq_true (show 97 ≤ bt s 0 by omega)]
 by_cases hz : bt s 0 > 122
 · rw [if_pos hz, decide_eq_false (show ¬ bt s 0 ≤ 122 by omega)]; rfl
 rw [if_neg hz, decide_eq_true (show bt s 0 ≤ 122 by omega)]
 show (strings_Trim.f s cutN).bind _ = _
 have hf : strings_Trim.f s cutN = some ⟨(Lib.trimS s.data.toList cutN.data.toList).toArray⟩ := by
  unfold strings_Trim.f
  rw [if_pos ⟨by omega, by decide, by decide⟩]
 rw [hf, Option.bind_some]
 congr 1
 simp only [Bool.true_and]
 have e : (s.data.toList.all fun b => chN (b.toNat : Int)) = s.data.toList.all fun b => cutN.data.toList.contains b := by
  congr 1; funext b; exact (in_cutN b).symm
 rw [e, Bool.eq_iff_iff, beq_iff_eq, Lib.toList_data, ← trimS_nil]
theorem bt_nat (s : ByteArray) (i : Nat) (h : i < s.data.toList.length) : bt s (i : Int) = ((s.data.toList[i]'h).toNat : Int) := by
 have := bt_drop s i 0
 rw [show (i : Int) + ((0 : Nat) : Int) = (i : Int) by omega] at this
 rw [this, List.getD_eq_getElem?_getD, List.getElem?_drop, Nat.add_zero, List.getElem?_eq_getElem h]; rfl
theorem ref_name_l0 (s : ByteArray) (hs : s.size ≤ 9223372036854775807) : ∀ (n i : Nat), i + n = s.size → ∀ k, n < k → belfryref09_Name.l0 k s (i : Int) = some ((s.data.toList.drop i).all (fun b => chN (b.toNat : Int)))
 | _, _, _, 0, hk => absurd hk (by omega)
 | 0, i, hn, k + 1, hk => by
  have hl : s.data.toList.length = s.size := Array.length_toList
  rw [belfryref09_Name.l0, if_neg (by omega), List.drop_of_length_le (by omega)]; rfl
 | n + 1, i, hn, k + 1, hk => by
  have hl : s.data.toList.length = s.size := Array.length_toList
  have ih := ref_name_l0 s hs n (i + 1) (by omega) k (by omega)
  rw [belfryref09_Name.l0, if_pos (by omega), if_pos (by omega), wrap_small (n := (i : Int) + 1) (by omega) (by omega), show (i : Int) + 1 = ((i + 1 : Nat) : Int) by omega, ih, drop_cons33 _ i (by omega), List.all_cons, ← bt_nat s i (by omega)]
  simp only [chN]
  generalize bt s (i : Int) = c
  by_cases h97 : c ≥ 97 <;> by_cases h122 : c ≤ 122 <;> by_cases h48 : c ≥ 48 <;> by_cases h57 : c ≤ 57 <;> by_cases h45 : c = 45 <;> first | omega | simp [*]
theorem ref_name_eq (s : ByteArray) (k : Nat) (hk : 40 < k) : belfryref09_Name.f k s = some (nameB s) := by
 obtain ⟨k, rfl⟩ : ∃ j, k = j + 1 := ⟨k - 1, by omega⟩
 unfold belfryref09_Name.f nameB
 by_cases h0 : (s.size : Int) < 1
 · rw [if_pos h0, belfryref09_Name.j0, if_pos rfl, decide_eq_false (show ¬ 1 ≤ s.size by omega)]; rfl
 rw [if_neg h0, decide_eq_true (show 1 ≤ s.size by omega)]
 by_cases h32 : (s.size : Int) > 32
 · rw [if_pos h32, belfryref09_Name.j0, if_pos rfl, decide_eq_false (show ¬ s.size ≤ 32 by omega)]; rfl
 rw [if_neg h32, decide_eq_true (show s.size ≤ 32 by omega), if_pos (by omega)]
 by_cases ha : bt s 0 < 97
 · rw [if_pos ha, belfryref09_Name.j0, if_pos rfl, decide_eq_false (show ¬ 97 ≤ bt s 0 by omega)]; rfl
 rw [if_neg ha, decide_eq_true (show 97 ≤ bt s 0 by omega)]
 by_cases hz : bt s 0 > 122
 · rw [decide_eq_true hz, belfryref09_Name.j0, if_pos rfl, decide_eq_false (show ¬ bt s 0 ≤ 122 by omega)]; rfl
 rw [decide_eq_false hz, belfryref09_Name.j0, if_neg (by simp), decide_eq_true (show bt s 0 ≤ 122 by omega)]
 have := ref_name_l0 s (by omega) s.size 0 (by omega) k (by omega)
 rw [List.drop_zero] at this; exact this
def plainB (s : ByteArray) : Bool := decide (s.size ≤ 256) && Lib.validD s.data.toList
theorem plain_eq (s : ByteArray) : attr_plain.f s = some (plainB s) := by
 unfold attr_plain.f utf8_ValidString.f plainB
 by_cases h : (s.size : Int) ≤ 256; rotate_left
 · rw [if_neg h, decide_eq_false (show ¬ s.size ≤ 256 by omega)]; rfl
 rw [if_pos h, decide_eq_true (show s.size ≤ 256 by omega), if_pos (by omega)]; rfl
theorem ref_text_eq (s : ByteArray) : Ev (fun k => belfryref04_text.f k s) (plainB s) := by
 unfold belfryref04_text.f belfryref02_Utf8.f plainB
 by_cases h : (s.size : Int) ≤ 256; rotate_left
 ·
  have h2 : decide (s.size ≤ 256) = false := decide_eq_false (by omega)
  refine ⟨0, fun k _ => ?_⟩
  dsimp only
  rw [if_neg h, h2]; simp
 have h2 : decide (s.size ≤ 256) = true := decide_eq_true (by omega)
 obtain ⟨K, hK⟩ := utf8_l0 s (by omega) (s.size + 1) 0 (by omega) (by omega)
 refine ⟨K, fun k hk => ?_⟩
 have := hK k hk
 simp only [Int.natCast_zero, List.drop_zero] at this
 dsimp only
 rw [if_pos h, h2]
 rw [this]; simp
def wrongL : List S33 → Int
  | [] => 0
  | x :: m => if x.f0 < 1 ∨ 4 < x.f0 then 42 else if keyB x.f1 then (if plainB x.f2 then wrongL m else 41) else 40
theorem sign_nil (c : Int) : ∃ b, attr_sign.f c = some b ∧ (b.toList = ([] : List UInt8) ↔ c < 1 ∨ 4 < c) := by
 unfold attr_sign.f
 by_cases h1 : c = 1
 · exact ⟨_, if_pos h1, by simp [Lib.toList_data]; omega⟩
 rw [if_neg h1]; by_cases h2 : c = 2
 · exact ⟨_, if_pos h2, by simp [Lib.toList_data]; omega⟩
 rw [if_neg h2]; by_cases h3 : c = 3
 · exact ⟨_, if_pos h3, by simp [Lib.toList_data]; omega⟩
 rw [if_neg h3]; by_cases h4 : c = 4
 · exact ⟨_, if_pos h4, by simp [Lib.toList_data]; omega⟩
 exact ⟨_, if_neg h4, by simp [Lib.toList_data]; omega⟩
theorem wrong_l0 (m : List S33) (hm : m.length < 4611686018427387904) : ∀ (n i : Nat), i + n = m.length → ∀ k, n + 70 < k → attr_wrong.l0 k m (m.length : Int) (i : Int) = some (wrongL (m.drop i))
 | _, _, _, 0, hk => absurd hk (by omega)
 | 0, i, hn, k + 1, hk => by
  rw [attr_wrong.l0, if_neg (by omega), List.drop_of_length_le (show m.length ≤ i by omega)]; rfl
 | n + 1, i, hn, k + 1, hk => by
  have hi : i < m.length := by omega
  obtain ⟨b, hb, hbn⟩ := sign_nil m[i].f0
  rw [attr_wrong.l0, if_pos (by omega), if_pos (by omega), if_pos (by omega), rd_at33 m i hi, hb, Option.bind_some, drop_cons33 m i hi, wrongL, wrap_small (n := (i : Int) + 1) (by omega) (by omega), show (i : Int) + 1 = ((i + 1 : Nat) : Int) by omega, wrong_l0 m hm n (i + 1) (by omega) k (by omega), key_eq _ k (by omega), Option.bind_some, plain_eq, Option.bind_some]
  by_cases h : m[i].f0 < 1 ∨ 4 < m[i].f0
  · rw [if_pos (hbn.2 h), if_pos h]
  rw [if_neg (fun e => h (hbn.1 e)), if_neg h]
  cases keyB m[i].f1 <;> cases plainB m[i].f2 <;> simp
theorem wrong_ev (m : List S33) (hm : m.length < 4611686018427387904) : Ev (fun k => attr_wrong.f k m) (wrongL m) := by
 refine ⟨m.length + 71, fun k hk => ?_⟩
 have := wrong_l0 m hm m.length 0 (by omega) k (by omega)
 exact this
theorem each_l0 (m : List S33) (hm : m.length < 4611686018427387904) : ∀ (n i : Nat), i + n = m.length → Ev (fun k => belfryref04_eachMatch.l0 k m (i : Int)) (wrongL (m.drop i))
 | 0, i, hn => by
  refine ⟨1, fun k hk => ?_⟩
  obtain ⟨k, rfl⟩ : ∃ j, k = j + 1 := ⟨k - 1, by omega⟩
  dsimp only
  rw [belfryref04_eachMatch.l0, if_neg (by omega), List.drop_of_length_le (show m.length ≤ i by omega)]; rfl
 | n + 1, i, hn => by
  have hi : i < m.length := by omega
  have ih := each_l0 m hm n (i + 1) (by omega); rw [drop_cons33 m i hi, wrongL]
  refine Ev.succ (g := fun k => belfryref04_eachMatch.j1 k m (i : Int) (decide (m[i].f0 < 1 ∨ 4 < m[i].f0))) ?_ (fun k => by
   rw [belfryref04_eachMatch.l0, if_pos (by omega), if_pos (by omega), rd_at33 m i hi]; by_cases h1 : m[i].f0 < 1
   · rw [if_pos h1, decide_eq_true (Or.inl h1)]
   rw [if_neg h1]
   congr 1
   simp [h1])
  by_cases h : m[i].f0 < 1 ∨ 4 < m[i].f0
  ·
   rw [if_pos h, decide_eq_true h]
   exact Ev.succ (g := fun _ => some 42) (Ev.const rfl) (fun k => by rw [belfryref04_eachMatch.j1, if_pos rfl])
  rw [if_neg h, decide_eq_false h]
  refine Ev.succ (g := fun k => (belfryref04_Key.f k m[i].f1).bind fun t246 => (if t246 = true then ((belfryref04_text.f k m[i].f2).bind fun t248 => (if t248 = true then (belfryref04_eachMatch.l0 k m ((i + 1 : Nat) : Int)) else (some 41))) else (some 40))) ?_ (fun k => by
   rw [belfryref04_eachMatch.j1, if_neg (by simp), if_pos (by omega), if_pos (by omega), rd_at33 m i hi, wrap_small (n := (i : Int) + 1) (by omega) (by omega), show (i : Int) + 1 = ((i + 1 : Nat) : Int) by omega])
  refine Ev.bind (v := keyB m[i].f1) ⟨67, fun k hk => ref_key_eq _ k (by omega)⟩ ?_
  cases keyB m[i].f1 with
  | false => exact Ev.const rfl
  | true =>
   simp only [if_true]
   refine Ev.bind (ref_text_eq m[i].f2) ?_
   cases plainB m[i].f2 with
   | false => exact Ev.const rfl
   | true => exact ih
theorem each_ev (m : List S33) (hm : m.length < 4611686018427387904) : Ev (fun k => belfryref04_eachMatch.f k m) (wrongL m) := by
 have := each_l0 m hm m.length 0 (by omega)
 exact this
def rightM (m : List S33) : Int := if (m.length : Int) > 8 then 7 else wrongL m
theorem rightM_ev (m : List S33) : Ev (fun k => attr_RightMatch.f k m) (rightM m) := by
 unfold attr_RightMatch.f rightM
 by_cases h : (m.length : Int) > 8
 · simp only [if_pos h]; exact Ev.const rfl
 simp only [if_neg h]
 exact Ev.bind (wrong_ev m (by omega)) (Ev.const rfl)
theorem ref_rightM_ev (m : List S33) : Ev (fun k => belfryref04_RightMatch.f k m) (rightM m) := by
 unfold belfryref04_RightMatch.f rightM
 by_cases h : (m.length : Int) > 8
 · simp only [if_pos h]; exact Ev.const rfl
 simp only [if_neg h]
 exact Ev.bind (each_ev m (by omega)) (Ev.const rfl)
end Go.Proofs.YtkedidjjhhjdbaaGreatDoor.Pr
end
section
namespace Go.Proofs.YtkedidjjhhjdbaaGreatDoor.Pr
open Go.RowKit Go.Proofs.YtkedidjjhhjdbaaGreatDoorW.PrintWords Go.Proofs.YtkedidjjhhjdbaaGreatDoorW.PrintLast Go.Proofs.YtkedidjjhhjdbaaGreatDoorW.PrintMore
attribute [local go_sem] max2_int min2_int max_two min_two max_three min_three max_four min_four strGtr strLeq strGeq
set_option linter.unusedVariables false
set_option linter.unusedSimpArgs false
def policy_Kind.f (a0 : Int) : Option (ByteArray) := if a0 = 0 then (some (⟨#[97, 110, 121]⟩ : ByteArray)) else (if a0 = 1 then (some (⟨#[109, 101, 116, 114, 105, 99, 115]⟩ : ByteArray)) else (if a0 = 2 then (some (⟨#[108, 111, 103, 115]⟩ : ByteArray)) else (if a0 = 3 then (some (⟨#[116, 114, 97, 99, 101, 115]⟩ : ByteArray)) else (some (⟨#[]⟩ : ByteArray)))))
set_option maxHeartbeats 8000000 in
set_option maxRecDepth 100000 in
theorem policy_Kind.calls (a0 : Int) (r : ByteArray) (w : World) (h : policy_Kind.f a0 = some r) :
  Calls Tryz.prog 19 #[.int .i64 a0] w fun e w' => e = .returned (.string r) ∧ Drawn0 w w' := by
 have H : (if a0 = 0 then (some (⟨#[97, 110, 121]⟩ : ByteArray)) else (if a0 = 1 then (some (⟨#[109, 101, 116, 114, 105, 99, 115]⟩ : ByteArray)) else (if a0 = 2 then (some (⟨#[108, 111, 103, 115]⟩ : ByteArray)) else (if a0 = 3 then (some (⟨#[116, 114, 97, 99, 101, 115]⟩ : ByteArray)) else (some (⟨#[]⟩ : ByteArray)))))) = some r := h
 clear h; by_cases c2 : a0 = 0
 ·
  rw [if_pos c2] at H
  have c2b0 : (a0 == 0) = true := beq_iff_eq.mpr c2
  have c2b1 : (a0 != 0) = false := bne_eq_false_iff_eq.mpr c2
  clear c2
  obtain rfl := Option.some.inj H
  go_enter Tryz.func19, Tryz.ntmps19
  go_wp2; go_ret
  exact ⟨sR, dR⟩
 rw [if_neg c2] at H
 have c2b0 : (a0 == 0) = false := beq_eq_false_iff_ne.mpr c2
 have c2b1 : (a0 != 0) = true := bne_iff_ne.mpr c2
 by_cases c3 : a0 = 1
 ·
  rw [if_pos c3] at H
  have c3b0 : (a0 == 1) = true := beq_iff_eq.mpr c3
  have c3b1 : (a0 != 1) = false := bne_eq_false_iff_eq.mpr c3
  clear c3
  obtain rfl := Option.some.inj H
  go_enter Tryz.func19, Tryz.ntmps19
  go_wp2; go_ret
  exact ⟨sR, dR⟩
 rw [if_neg c3] at H
 have c3b0 : (a0 == 1) = false := beq_eq_false_iff_ne.mpr c3
 have c3b1 : (a0 != 1) = true := bne_iff_ne.mpr c3
 by_cases c4 : a0 = 2
 ·
  rw [if_pos c4] at H
  have c4b0 : (a0 == 2) = true := beq_iff_eq.mpr c4
  have c4b1 : (a0 != 2) = false := bne_eq_false_iff_eq.mpr c4
  clear c4
  obtain rfl := Option.some.inj H
  go_enter Tryz.func19, Tryz.ntmps19
  go_wp2; go_ret
  exact ⟨sR, dR⟩
 rw [if_neg c4] at H
 have c4b0 : (a0 == 2) = false := beq_eq_false_iff_ne.mpr c4
 have c4b1 : (a0 != 2) = true := bne_iff_ne.mpr c4
 by_cases c5 : a0 = 3; rotate_left
 ·
  rw [if_neg c5] at H
  have c5b0 : (a0 == 3) = false := beq_eq_false_iff_ne.mpr c5
  have c5b1 : (a0 != 3) = true := bne_iff_ne.mpr c5
  obtain rfl := Option.some.inj H
  go_enter Tryz.func19, Tryz.ntmps19
  go_wp2; go_ret
  exact ⟨sR, dR⟩
 rw [if_pos c5] at H
 have c5b0 : (a0 == 3) = true := beq_iff_eq.mpr c5
 have c5b1 : (a0 != 3) = false := bne_eq_false_iff_eq.mpr c5
 clear c5
 obtain rfl := Option.some.inj H
 go_enter Tryz.func19, Tryz.ntmps19
 go_wp2; go_ret
 exact ⟨sR, dR⟩
end Go.Proofs.YtkedidjjhhjdbaaGreatDoor.Pr
end
