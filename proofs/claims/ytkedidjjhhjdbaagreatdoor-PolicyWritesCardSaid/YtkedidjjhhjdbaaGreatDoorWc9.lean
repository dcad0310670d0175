import Derived.Test.YtkedidjjhhjdbaaGreatDoorWc0
import Derived.Test.YtkedidjjhhjdbaaGreatDoorWc5
import Derived.Test.YtkedidjjhhjdbaaGreatDoorWc7
import Derived.Test.YtkedidjjhhjdbaaGreatDoorWc8
import Derived.Lib.ValidLaws
section
namespace Go.Proofs.YtkedidjjhhjdbaaGreatDoor.Pr
open Go.RowKit Go.Proofs.YtkedidjjhhjdbaaGreatDoorW.PrintWords Go.Proofs.YtkedidjjhhjdbaaGreatDoorW.PrintLast Go.Proofs.YtkedidjjhhjdbaaGreatDoorW.PrintMore
attribute [local go_sem] max2_int min2_int max_two min_two max_three min_three max_four min_four strGtr strLeq strGeq
set_option linter.unusedVariables false
set_option linter.unusedSimpArgs false
mutual
def belfryref02_Utf8.l0 : Nat → ByteArray → Int → Option (Bool)
  | 0, _, _ => none
  | k + 1, x0, x3 => if x3 < (x0.size : Int) then (if 0 ≤ x3 then (if (bt x0 x3) < 128 then (belfryref02_Utf8.j4 k x0 x3 0 128 191) else (if (bt x0 x3) ≥ 194 then (belfryref02_Utf8.j1 k x0 x3 (bt x0 x3) 128 191 (decide ((bt x0 x3) ≤ 223))) else (belfryref02_Utf8.j1 k x0 x3 (bt x0 x3) 128 191 false))) else (none)) else (some true)
def belfryref02_Utf8.j4 : Nat → ByteArray → Int → Int → Int → Int → Option (Bool)
  | 0, _, _, _, _, _ => none
  | k + 1, x0, x3, x5, x6, x7 => if x5 ≥ (wrap64 ((x0.size : Int) - x3)) then (some false) else (belfryref02_Utf8.l1 k x0 x3 x5 x6 x7 1)
def belfryref02_Utf8.l1 : Nat → ByteArray → Int → Int → Int → Int → Int → Option (Bool)
  | 0, _, _, _, _, _, _ => none
  | k + 1, x0, x3, x5, x6, x7, x8 => if x8 ≤ x5 then (if 0 ≤ (wrap64 (x3 + x8)) then (if (wrap64 (x3 + x8)) < (x0.size : Int) then (if (bt x0 (wrap64 (x3 + x8))) < x6 then (some false) else (if (bt x0 (wrap64 (x3 + x8))) > x7 then (some false) else (belfryref02_Utf8.l1 k x0 x3 x5 128 191 (wrap64 (x8 + 1))))) else (none)) else (none)) else (belfryref02_Utf8.l0 k x0 (wrap64 ((wrap64 (x3 + x5)) + 1)))
def belfryref02_Utf8.j1 : Nat → ByteArray → Int → Int → Int → Int → Bool → Option (Bool)
  | 0, _, _, _, _, _, _ => none
  | k + 1, x0, x3, x4, x6, x7, x19 => if x19 = true then (belfryref02_Utf8.j4 k x0 x3 1 x6 x7) else (if x4 ≥ 224 then (belfryref02_Utf8.j2 k x0 x3 x4 x6 x7 (decide (x4 ≤ 239))) else (belfryref02_Utf8.j2 k x0 x3 x4 x6 x7 false))
def belfryref02_Utf8.j2 : Nat → ByteArray → Int → Int → Int → Int → Bool → Option (Bool)
  | 0, _, _, _, _, _, _ => none
  | k + 1, x0, x3, x4, x6, x7, x26 => if x26 = true then (if x4 = 224 then (if x4 = 237 then (belfryref02_Utf8.j4 k x0 x3 2 160 159) else (belfryref02_Utf8.j4 k x0 x3 2 160 x7)) else (if x4 = 237 then (belfryref02_Utf8.j4 k x0 x3 2 x6 159) else (belfryref02_Utf8.j4 k x0 x3 2 x6 x7))) else (if x4 ≥ 240 then (belfryref02_Utf8.j3 k x0 x3 x4 x6 x7 (decide (x4 ≤ 244))) else (belfryref02_Utf8.j3 k x0 x3 x4 x6 x7 false))
def belfryref02_Utf8.j3 : Nat → ByteArray → Int → Int → Int → Int → Bool → Option (Bool)
  | 0, _, _, _, _, _, _ => none
  | k + 1, x0, x3, x4, x6, x7, x37 => if x37 = true then (if x4 = 240 then (if x4 = 244 then (belfryref02_Utf8.j4 k x0 x3 3 144 143) else (belfryref02_Utf8.j4 k x0 x3 3 144 x7)) else (if x4 = 244 then (belfryref02_Utf8.j4 k x0 x3 3 x6 143) else (belfryref02_Utf8.j4 k x0 x3 3 x6 x7))) else (some false)
end
def belfryref02_Utf8.f (k : Nat) (a0 : ByteArray) : Option (Bool) := belfryref02_Utf8.l0 k a0 0
set_option maxHeartbeats 8000000 in
set_option maxRecDepth 100000 in
theorem belfryref02_Utf8.calls (k : Nat) (a0 : ByteArray) (r : Bool) (w : World) (h : belfryref02_Utf8.f k a0 = some r) :
  Calls Tryz.prog 130 #[.string a0] w fun e w' => e = .returned (.bool r) ∧ Drawn0 w w' := by
 have H : (belfryref02_Utf8.l0 k a0 0) = some r := h
 clear h; have H' := Aside0.mk H; clear H
 go_enter Tryz.func130, Tryz.ntmps130
 go_wp2
 go_loopg [3] k (fun kq v3 w' => ∃ (x3_1 : Int), v3 = .int .i64 x3_1 ∧ Aside0 (belfryref02_Utf8.l0 kq a0 x3_1 = some r) ∧ Aside0 (kq ≤ k) ∧ Drawn0 w w')
 case atStart => exact ⟨(0), sR, H', ⟨Nat.le_refl _⟩, dR⟩
 case round =>
  clear H'; (try clear c1)
  obtain ⟨x3_1, rfl, HA, HK1, ⟨m1, rfl⟩⟩ := hrel
  cases gk with
  | zero => exact absurd HA.out (by simp [belfryref02_Utf8.l0])
  | succ k1 =>
   have H := HA.out; clear HA
   simp only [belfryref02_Utf8.l0] at H
   by_cases c2 : x3_1 < (a0.size : Int); rotate_left
   ·
    rw [if_neg c2] at H
    have c2b0 : decide (x3_1 < (a0.size : Int)) = false := decide_eq_false c2
    clear c2
    obtain rfl := Option.some.inj H
    go_wp2; go_ret
    exact ⟨sR, dR⟩
   rw [if_pos c2] at H
   have c2b0 : decide (x3_1 < (a0.size : Int)) = true := decide_eq_true c2
   clear c2; by_cases c3 : 0 ≤ x3_1; rotate_left
   · rw [if_neg c3] at H; exact absurd H (by simp)
   rw [if_pos c3] at H
   have c3b0 : decide (0 ≤ x3_1) = true := decide_eq_true c3
   clear c3; have HC5 := Aside0.mk H; clear H
   have p4 : 0 ≤ (x3_1 : Int) := of_decide_eq_true asm
   have q4 : x3_1 < (a0.size : Int) := of_decide_eq_true asm
   have hx4 := bt_at a0 x3_1; replace p4 := eq_true p4; replace q4 := eq_true q4
   go_upto_block 2 with (fail)
   go_cut [5, 6, 7] (fun v5 v6 v7 wc => ∃ (kq : Nat) (x5_4 : Int) (x6_4 : Int) (x7_4 : Int), v5 = .int .i64 x5_4 ∧ v6 = .int .u8 x6_4 ∧ v7 = .int .u8 x7_4 ∧ Aside0 (belfryref02_Utf8.j4 kq a0 x3_1 x5_4 x6_4 x7_4 = some r) ∧ Aside0 (kq ≤ k1) ∧ Drawn0 w wc)
   case first =>
    have H := HC5.out; clear HC5; by_cases c6 : (bt a0 x3_1) < 128
    ·
     rw [if_pos c6] at H
     have c6b0 : decide ((bt a0 x3_1) < 128) = true := decide_eq_true c6
     clear c6
     (first | rw [c6b0] | (simp only [i64_w, i32_w]; rw [c6b0]) | skip)
     have H' := Aside0.mk H; clear H; go_wp2
     go_meet
     case rel => exact ⟨_, (0), (128), (191), sR, sR, sR, H', ⟨by have := HK1.out; first | omega | exact Nat.le_refl _⟩, dR⟩
    rw [if_neg c6] at H
    have c6b0 : decide ((bt a0 x3_1) < 128) = false := decide_eq_false c6
    clear c6
    (first | rw [c6b0] | (simp only [i64_w, i32_w]; rw [c6b0]) | skip)
    have HC7 := Aside0.mk H; clear H
    go_upto_region 9 with (fail)
    go_cut [19] (fun v19 wc => ∃ (kq : Nat) (x19_6 : Bool), v19 = .bool x19_6 ∧ Aside0 (belfryref02_Utf8.j1 kq a0 x3_1 (bt a0 x3_1) 128 191 x19_6 = some r) ∧ Aside0 (kq ≤ k1) ∧ Drawn0 w wc)
    case first =>
     have H := HC7.out; clear HC7; by_cases c8 : (bt a0 x3_1) ≥ 194; rotate_left
     ·
      rw [if_neg c8] at H
      have c8b0 : decide (194 ≤ (bt a0 x3_1)) = false := decide_eq_false c8
      clear c8
      (first | rw [c8b0] | (simp only [i64_w, i32_w]; rw [c8b0]) | skip)
      have H' := Aside0.mk H; clear H; go_wp2
      go_meet
      case rel => exact ⟨_, (false), sR, H', ⟨by have := HK1.out; first | omega | exact Nat.le_refl _⟩, dR⟩
     rw [if_pos c8] at H
     have c8b0 : decide (194 ≤ (bt a0 x3_1)) = true := decide_eq_true c8
     clear c8
     (first | rw [c8b0] | (simp only [i64_w, i32_w]; rw [c8b0]) | skip)
     have H' := Aside0.mk H; clear H; go_wp2
     go_meet
     case rel => exact ⟨_, (decide ((bt a0 x3_1) ≤ 223)), sR, H', ⟨by have := HK1.out; first | omega | exact Nat.le_refl _⟩, dR⟩
    case rest =>
     clear HC7; (try clear c1); (try clear c2); (try clear c2b0); (try clear p2); (try clear c3); (try clear c3b0); (try clear p4); (try clear q4); (try clear hx4); (try clear c6); (try clear c6b0); (try clear c8); (try clear c8b0); (try clear p4); (try clear q4)
     obtain ⟨kq, x19_6, rfl, HA, HJ6, ⟨mc6, rfl⟩⟩ := hcut
     cases kq with
     | zero => exact absurd HA.out (by simp [belfryref02_Utf8.j1])
     | succ kj6 =>
      have H := HA.out; clear HA
      simp only [belfryref02_Utf8.j1] at H
      by_cases c9 : x19_6 = true
      ·
       subst c9
       have H1 : (belfryref02_Utf8.j4 kj6 a0 x3_1 1 128 191) = some r := by rw [if_pos rfl] at H; exact H
       clear H; have H := H1; clear H1; have H' := Aside0.mk H; clear H; go_wp2
       go_meet
       case rel => exact ⟨_, (1), (128), (191), sR, sR, sR, H', ⟨by have := HK1.out; have := HJ6.out; first | omega | exact Nat.le_refl _⟩, dR⟩
      replace c9 := Bool.eq_false_iff.mpr c9
      subst c9
      have H1 : (if (bt a0 x3_1) ≥ 224 then (belfryref02_Utf8.j2 kj6 a0 x3_1 (bt a0 x3_1) 128 191 (decide ((bt a0 x3_1) ≤ 239))) else (belfryref02_Utf8.j2 kj6 a0 x3_1 (bt a0 x3_1) 128 191 false)) = some r := by rw [if_neg (show ¬ (false = true) by decide)] at H; exact H
      clear H; have H := H1; clear H1; have HC10 := Aside0.mk H; clear H
      go_upto_region 11 with (fail)
      go_cut [26] (fun v26 wc => ∃ (kq : Nat) (x26_9 : Bool), v26 = .bool x26_9 ∧ Aside0 (belfryref02_Utf8.j2 kq a0 x3_1 (bt a0 x3_1) 128 191 x26_9 = some r) ∧ Aside0 (kq ≤ kj6) ∧ Drawn0 w wc)
      case first =>
       have H := HC10.out; clear HC10; by_cases c11 : (bt a0 x3_1) ≥ 224; rotate_left
       ·
        rw [if_neg c11] at H
        have c11b0 : decide (224 ≤ (bt a0 x3_1)) = false := decide_eq_false c11
        clear c11
        (first | rw [c11b0] | (simp only [i64_w, i32_w]; rw [c11b0]) | skip)
        have H' := Aside0.mk H; clear H; go_wp2
        go_meet
        case rel => exact ⟨_, (false), sR, H', ⟨by have := HK1.out; have := HJ6.out; first | omega | exact Nat.le_refl _⟩, dR⟩
       rw [if_pos c11] at H
       have c11b0 : decide (224 ≤ (bt a0 x3_1)) = true := decide_eq_true c11
       clear c11
       (first | rw [c11b0] | (simp only [i64_w, i32_w]; rw [c11b0]) | skip)
       have H' := Aside0.mk H; clear H; go_wp2
       go_meet
       case rel => exact ⟨_, (decide ((bt a0 x3_1) ≤ 239)), sR, H', ⟨by have := HK1.out; have := HJ6.out; first | omega | exact Nat.le_refl _⟩, dR⟩
      case rest =>
       clear HC10; (try clear c1); (try clear c2); (try clear c2b0); (try clear p2); (try clear c3); (try clear c3b0); (try clear p4); (try clear q4); (try clear hx4); (try clear c6); (try clear c6b0); (try clear c8); (try clear c8b0); (try clear c9); (try clear c11); (try clear c11b0); (try clear p2); (try clear p4); (try clear q4)
       obtain ⟨kq, x26_9, rfl, HA, HJ9, ⟨mc9, rfl⟩⟩ := hcut
       cases kq with
       | zero => exact absurd HA.out (by simp [belfryref02_Utf8.j2])
       | succ kj9 =>
        have H := HA.out; clear HA
        simp only [belfryref02_Utf8.j2] at H
        by_cases c12 : x26_9 = true
        ·
         subst c12
         have H1 : (if (bt a0 x3_1) = 224 then (if (bt a0 x3_1) = 237 then (belfryref02_Utf8.j4 kj9 a0 x3_1 2 160 159) else (belfryref02_Utf8.j4 kj9 a0 x3_1 2 160 191)) else (if (bt a0 x3_1) = 237 then (belfryref02_Utf8.j4 kj9 a0 x3_1 2 128 159) else (belfryref02_Utf8.j4 kj9 a0 x3_1 2 128 191))) = some r := by rw [if_pos rfl] at H; exact H
         clear H; have H := H1; clear H1; by_cases c13 : (bt a0 x3_1) = 224; rotate_left
         ·
          rw [if_neg c13] at H
          have c13b0 : ((bt a0 x3_1) == 224) = false := beq_eq_false_iff_ne.mpr c13
          have c13b1 : ((bt a0 x3_1) != 224) = true := bne_iff_ne.mpr c13
          by_cases c15 : (bt a0 x3_1) = 237; rotate_left
          ·
           rw [if_neg c15] at H
           have c15b0 : ((bt a0 x3_1) == 237) = false := beq_eq_false_iff_ne.mpr c15
           have c15b1 : ((bt a0 x3_1) != 237) = true := bne_iff_ne.mpr c15
           have H' := Aside0.mk H; clear H; go_wp2
           go_meet
           case rel => exact ⟨_, (2), (128), (191), sR, sR, sR, H', ⟨by have := HK1.out; have := HJ6.out; have := HJ9.out; first | omega | exact Nat.le_refl _⟩, dR⟩
          rw [if_pos c15] at H
          have c15b0 : ((bt a0 x3_1) == 237) = true := beq_iff_eq.mpr c15
          have c15b1 : ((bt a0 x3_1) != 237) = false := bne_eq_false_iff_eq.mpr c15
          clear c15; have H' := Aside0.mk H; clear H; go_wp2
          go_meet
          case rel => exact ⟨_, (2), (128), (159), sR, sR, sR, H', ⟨by have := HK1.out; have := HJ6.out; have := HJ9.out; first | omega | exact Nat.le_refl _⟩, dR⟩
         rw [if_pos c13] at H
         have c13b0 : ((bt a0 x3_1) == 224) = true := beq_iff_eq.mpr c13
         have c13b1 : ((bt a0 x3_1) != 224) = false := bne_eq_false_iff_eq.mpr c13
         clear c13; by_cases c14 : (bt a0 x3_1) = 237; rotate_left
         ·
          rw [if_neg c14] at H
          have c14b0 : ((bt a0 x3_1) == 237) = false := beq_eq_false_iff_ne.mpr c14
          have c14b1 : ((bt a0 x3_1) != 237) = true := bne_iff_ne.mpr c14
          have H' := Aside0.mk H; clear H; go_wp2
          go_meet
          case rel => exact ⟨_, (2), (160), (191), sR, sR, sR, H', ⟨by have := HK1.out; have := HJ6.out; have := HJ9.out; first | omega | exact Nat.le_refl _⟩, dR⟩
         rw [if_pos c14] at H
         have c14b0 : ((bt a0 x3_1) == 237) = true := beq_iff_eq.mpr c14
         have c14b1 : ((bt a0 x3_1) != 237) = false := bne_eq_false_iff_eq.mpr c14
         clear c14; have H' := Aside0.mk H; clear H; go_wp2
         go_meet
         case rel => exact ⟨_, (2), (160), (159), sR, sR, sR, H', ⟨by have := HK1.out; have := HJ6.out; have := HJ9.out; first | omega | exact Nat.le_refl _⟩, dR⟩
        replace c12 := Bool.eq_false_iff.mpr c12
        subst c12
        have H1 : (if (bt a0 x3_1) ≥ 240 then (belfryref02_Utf8.j3 kj9 a0 x3_1 (bt a0 x3_1) 128 191 (decide ((bt a0 x3_1) ≤ 244))) else (belfryref02_Utf8.j3 kj9 a0 x3_1 (bt a0 x3_1) 128 191 false)) = some r := by rw [if_neg (show ¬ (false = true) by decide)] at H; exact H
        clear H; have H := H1; clear H1; have HC16 := Aside0.mk H; clear H
        go_upto_region 17 with (fail)
        go_cut [37] (fun v37 wc => ∃ (kq : Nat) (x37_15 : Bool), v37 = .bool x37_15 ∧ Aside0 (belfryref02_Utf8.j3 kq a0 x3_1 (bt a0 x3_1) 128 191 x37_15 = some r) ∧ Aside0 (kq ≤ kj9) ∧ Drawn0 w wc)
        case first =>
         have H := HC16.out; clear HC16; by_cases c17 : (bt a0 x3_1) ≥ 240; rotate_left
         ·
          rw [if_neg c17] at H
          have c17b0 : decide (240 ≤ (bt a0 x3_1)) = false := decide_eq_false c17
          clear c17
          (first | rw [c17b0] | (simp only [i64_w, i32_w]; rw [c17b0]) | skip)
          have H' := Aside0.mk H; clear H; go_wp2
          go_meet
          case rel => exact ⟨_, (false), sR, H', ⟨by have := HK1.out; have := HJ6.out; have := HJ9.out; first | omega | exact Nat.le_refl _⟩, dR⟩
         rw [if_pos c17] at H
         have c17b0 : decide (240 ≤ (bt a0 x3_1)) = true := decide_eq_true c17
         clear c17
         (first | rw [c17b0] | (simp only [i64_w, i32_w]; rw [c17b0]) | skip)
         have H' := Aside0.mk H; clear H; go_wp2
         go_meet
         case rel => exact ⟨_, (decide ((bt a0 x3_1) ≤ 244)), sR, H', ⟨by have := HK1.out; have := HJ6.out; have := HJ9.out; first | omega | exact Nat.le_refl _⟩, dR⟩
        case rest =>
         clear HC16; (try clear c1); (try clear c2); (try clear c2b0); (try clear p2); (try clear c3); (try clear c3b0); (try clear p4); (try clear q4); (try clear hx4); (try clear c6); (try clear c6b0); (try clear c8); (try clear c8b0); (try clear c9); (try clear c11); (try clear c11b0); (try clear c12); (try clear c13); (try clear c13b0); (try clear c13b1); (try clear c14); (try clear c14b0); (try clear c14b1); (try clear c15); (try clear c15b0); (try clear c15b1); (try clear c17); (try clear c17b0); (try clear p2); (try clear p4); (try clear q4)
         obtain ⟨kq, x37_15, rfl, HA, HJ15, ⟨mc15, rfl⟩⟩ := hcut
         cases kq with
         | zero => exact absurd HA.out (by simp [belfryref02_Utf8.j3])
         | succ kj15 =>
          have H := HA.out; clear HA
          simp only [belfryref02_Utf8.j3] at H
          by_cases c18 : x37_15 = true; rotate_left
          ·
           replace c18 := Bool.eq_false_iff.mpr c18
           subst c18
           have H1 : (some false) = some r := by rw [if_neg (show ¬ (false = true) by decide)] at H; exact H
           clear H; have H := H1; clear H1
           obtain rfl := Option.some.inj H
           go_wp2; go_ret
           exact ⟨sR, dR⟩
          subst c18
          have H1 : (if (bt a0 x3_1) = 240 then (if (bt a0 x3_1) = 244 then (belfryref02_Utf8.j4 kj15 a0 x3_1 3 144 143) else (belfryref02_Utf8.j4 kj15 a0 x3_1 3 144 191)) else (if (bt a0 x3_1) = 244 then (belfryref02_Utf8.j4 kj15 a0 x3_1 3 128 143) else (belfryref02_Utf8.j4 kj15 a0 x3_1 3 128 191))) = some r := by rw [if_pos rfl] at H; exact H
          clear H; have H := H1; clear H1; by_cases c19 : (bt a0 x3_1) = 240; rotate_left
          ·
           rw [if_neg c19] at H
           have c19b0 : ((bt a0 x3_1) == 240) = false := beq_eq_false_iff_ne.mpr c19
           have c19b1 : ((bt a0 x3_1) != 240) = true := bne_iff_ne.mpr c19
           by_cases c21 : (bt a0 x3_1) = 244; rotate_left
           ·
            rw [if_neg c21] at H
            have c21b0 : ((bt a0 x3_1) == 244) = false := beq_eq_false_iff_ne.mpr c21
            have c21b1 : ((bt a0 x3_1) != 244) = true := bne_iff_ne.mpr c21
            have H' := Aside0.mk H; clear H; go_wp2
            go_meet
            case rel => exact ⟨_, (3), (128), (191), sR, sR, sR, H', ⟨by have := HK1.out; have := HJ6.out; have := HJ9.out; have := HJ15.out; first | omega | exact Nat.le_refl _⟩, dR⟩
           rw [if_pos c21] at H
           have c21b0 : ((bt a0 x3_1) == 244) = true := beq_iff_eq.mpr c21
           have c21b1 : ((bt a0 x3_1) != 244) = false := bne_eq_false_iff_eq.mpr c21
           clear c21; have H' := Aside0.mk H; clear H; go_wp2
           go_meet
           case rel => exact ⟨_, (3), (128), (143), sR, sR, sR, H', ⟨by have := HK1.out; have := HJ6.out; have := HJ9.out; have := HJ15.out; first | omega | exact Nat.le_refl _⟩, dR⟩
          rw [if_pos c19] at H
          have c19b0 : ((bt a0 x3_1) == 240) = true := beq_iff_eq.mpr c19
          have c19b1 : ((bt a0 x3_1) != 240) = false := bne_eq_false_iff_eq.mpr c19
          clear c19; by_cases c20 : (bt a0 x3_1) = 244; rotate_left
          ·
           rw [if_neg c20] at H
           have c20b0 : ((bt a0 x3_1) == 244) = false := beq_eq_false_iff_ne.mpr c20
           have c20b1 : ((bt a0 x3_1) != 244) = true := bne_iff_ne.mpr c20
           have H' := Aside0.mk H; clear H; go_wp2
           go_meet
           case rel => exact ⟨_, (3), (144), (191), sR, sR, sR, H', ⟨by have := HK1.out; have := HJ6.out; have := HJ9.out; have := HJ15.out; first | omega | exact Nat.le_refl _⟩, dR⟩
          rw [if_pos c20] at H
          have c20b0 : ((bt a0 x3_1) == 244) = true := beq_iff_eq.mpr c20
          have c20b1 : ((bt a0 x3_1) != 244) = false := bne_eq_false_iff_eq.mpr c20
          clear c20; have H' := Aside0.mk H; clear H; go_wp2
          go_meet
          case rel => exact ⟨_, (3), (144), (143), sR, sR, sR, H', ⟨by have := HK1.out; have := HJ6.out; have := HJ9.out; have := HJ15.out; first | omega | exact Nat.le_refl _⟩, dR⟩
   case rest =>
    clear HC5; (try clear c1); (try clear c2); (try clear c2b0); (try clear p2); (try clear c3); (try clear c3b0); (try clear p4); (try clear q4); (try clear hx4); (try clear c6); (try clear c6b0); (try clear c8); (try clear c8b0); (try clear c9); (try clear c11); (try clear c11b0); (try clear c12); (try clear c13); (try clear c13b0); (try clear c13b1); (try clear c14); (try clear c14b0); (try clear c14b1); (try clear c15); (try clear c15b0); (try clear c15b1); (try clear c17); (try clear c17b0); (try clear c18); (try clear c19); (try clear c19b0); (try clear c19b1); (try clear c20)
    (try clear c20b0); (try clear c20b1); (try clear c21); (try clear c21b0); (try clear c21b1); (try clear p2); (try clear p4); (try clear q4)
    obtain ⟨kq, x5_4, x6_4, x7_4, rfl, rfl, rfl, HA, HJ4, ⟨mc4, rfl⟩⟩ := hcut
    cases kq with
    | zero => exact absurd HA.out (by simp [belfryref02_Utf8.j4])
    | succ kj4 =>
     have H := HA.out; clear HA
     simp only [belfryref02_Utf8.j4] at H
     by_cases c22 : x5_4 ≥ (wrap64 ((a0.size : Int) - x3_1))
     ·
      rw [if_pos c22] at H
      have c22b0 : decide ((wrap64 ((a0.size : Int) - x3_1)) ≤ x5_4) = true := decide_eq_true c22
      clear c22
      obtain rfl := Option.some.inj H
      go_wp2; go_ret
      exact ⟨sR, dR⟩
     rw [if_neg c22] at H
     have c22b0 : decide ((wrap64 ((a0.size : Int) - x3_1)) ≤ x5_4) = false := decide_eq_false c22
     clear c22; have H' := Aside0.mk H; clear H; go_wp2
     go_loopg [6, 7, 8] kj4 (fun kq v6 v7 v8 w' => ∃ (x6_3 : Int) (x7_3 : Int) (x8_3 : Int), v6 = .int .u8 x6_3 ∧ v7 = .int .u8 x7_3 ∧ v8 = .int .i64 x8_3 ∧ Aside0 (belfryref02_Utf8.l1 kq a0 x3_1 x5_4 x6_3 x7_3 x8_3 = some r) ∧ Aside0 (kq ≤ kj4) ∧ Drawn0 w w')
     case atStart => exact ⟨(x6_4), (x7_4), (1), sR, sR, sR, H', ⟨Nat.le_refl _⟩, dR⟩
     case round =>
      clear H'; (try clear c1); (try clear c2); (try clear c2b0); (try clear p2); (try clear c3); (try clear c3b0); (try clear c4); (try clear p4); (try clear q4); (try clear hx4); (try clear c6); (try clear c6b0); (try clear p6); (try clear c8); (try clear c8b0); (try clear c9); (try clear c11); (try clear c11b0); (try clear c12); (try clear c13); (try clear c13b0); (try clear c13b1); (try clear c14); (try clear c14b0); (try clear c14b1); (try clear c15); (try clear c15b0); (try clear c15b1); (try clear c17); (try clear c17b0); (try clear c18); (try clear c19); (try clear c19b0)
      (try clear c19b1); (try clear c20); (try clear c20b0); (try clear c20b1); (try clear c21); (try clear c21b0); (try clear c21b1); (try clear c22); (try clear c22b0); (try clear p2); (try clear p4); (try clear q4)
      obtain ⟨x6_3, x7_3, x8_3, rfl, rfl, rfl, HA, HK3, ⟨m3, rfl⟩⟩ := hrel
      cases gk with
      | zero => exact absurd HA.out (by simp [belfryref02_Utf8.l1])
      | succ k3 =>
       have H := HA.out; clear HA
       simp only [belfryref02_Utf8.l1] at H
       by_cases c23 : x8_3 ≤ x5_4; rotate_left
       ·
        rw [if_neg c23] at H
        have c23b0 : decide (x8_3 ≤ x5_4) = false := decide_eq_false c23
        clear c23; have H' := Aside0.mk H; clear H; go_wp2
        go_roundg k3
        case measure => have := HK1.out; have := HJ4.out; have := HK3.out; omega
        case rel => exact ⟨(wrap64 ((wrap64 (x3_1 + x5_4)) + 1)), sR, H', ⟨by have := HK1.out; have := HJ4.out; have := HK3.out; omega⟩, dR⟩
       rw [if_pos c23] at H
       have c23b0 : decide (x8_3 ≤ x5_4) = true := decide_eq_true c23
       clear c23
       obtain ⟨ji24, hji24⟩ : ∃ j_ : Int, (wrap64 (x3_1 + x8_3)) = j_ := ⟨_, rfl⟩
       replace H : (if 0 ≤ (ji24) then (if (ji24) < (a0.size : Int) then (if (bt a0 (ji24)) < x6_3 then (some false) else (if (bt a0 (ji24)) > x7_3 then (some false) else (belfryref02_Utf8.l1 k3 a0 x3_1 x5_4 128 191 (wrap64 (x8_3 + 1))))) else (none)) else (none)) = some r := by first | (rw [hji24] at H; exact H) | (simp only [hji24] at H ⊢; exact H)
       have hji24w : (IntKind.i64.wrap (x3_1 + x8_3)) = ji24 := (i64_w _).trans hji24
       by_cases c25 : 0 ≤ (ji24); rotate_left
       · rw [if_neg c25] at H; exact absurd H (by simp)
       rw [if_pos c25] at H
       have c25b0 : decide (0 ≤ (ji24)) = true := decide_eq_true c25
       clear c25; by_cases c26 : (ji24) < (a0.size : Int); rotate_left
       · rw [if_neg c26] at H; exact absurd H (by simp)
       rw [if_pos c26] at H
       have c26b0 : decide ((ji24) < (a0.size : Int)) = true := decide_eq_true c26
       clear c26; by_cases c28 : (bt a0 (ji24)) < x6_3
       ·
        rw [if_pos c28] at H
        have c28b0 : decide ((bt a0 (ji24)) < x6_3) = true := decide_eq_true c28
        clear c28
        obtain rfl := Option.some.inj H
        have p27 : 0 ≤ ((ji24) : Int) := of_decide_eq_true asm
        have q27 : (ji24) < (a0.size : Int) := of_decide_eq_true asm
        have hx27 := bt_at a0 (ji24); replace p27 := eq_true p27; replace q27 := eq_true q27; go_wp2; go_ret
        exact ⟨by first | rfl | (simp; done) | (simp only [← hji24] <;> (first | rfl | simp)) | (simp [*]; done), dR⟩
       rw [if_neg c28] at H
       have c28b0 : decide ((bt a0 (ji24)) < x6_3) = false := decide_eq_false c28
       clear c28; by_cases c30 : (bt a0 (ji24)) > x7_3
       ·
        rw [if_pos c30] at H
        have c30b0 : decide (x7_3 < (bt a0 (ji24))) = true := decide_eq_true c30
        clear c30
        obtain rfl := Option.some.inj H
        have p27 : 0 ≤ ((ji24) : Int) := of_decide_eq_true asm
        have q27 : (ji24) < (a0.size : Int) := of_decide_eq_true asm
        have hx27 := bt_at a0 (ji24); replace p27 := eq_true p27; replace q27 := eq_true q27
        have p29 : 0 ≤ ((ji24) : Int) := of_decide_eq_true asm
        have q29 : (ji24) < (a0.size : Int) := of_decide_eq_true asm
        have hx29 := bt_at a0 (ji24); replace p29 := eq_true p29; replace q29 := eq_true q29; go_wp2; go_ret
        exact ⟨by first | rfl | (simp; done) | (simp only [← hji24] <;> (first | rfl | simp)) | (simp [*]; done), dR⟩
       rw [if_neg c30] at H
       have c30b0 : decide (x7_3 < (bt a0 (ji24))) = false := decide_eq_false c30
       clear c30; have H' := Aside0.mk H; clear H
       have p27 : 0 ≤ ((ji24) : Int) := of_decide_eq_true asm
       have q27 : (ji24) < (a0.size : Int) := of_decide_eq_true asm
       have hx27 := bt_at a0 (ji24); replace p27 := eq_true p27; replace q27 := eq_true q27
       have p29 : 0 ≤ ((ji24) : Int) := of_decide_eq_true asm
       have q29 : (ji24) < (a0.size : Int) := of_decide_eq_true asm
       have hx29 := bt_at a0 (ji24); replace p29 := eq_true p29; replace q29 := eq_true q29; go_wp2
       go_roundg k3
       case measure => have := HK1.out; have := HJ4.out; have := HK3.out; omega
       case rel => exact ⟨(128), (191), (wrap64 (x8_3 + 1)), sR, sR, sR, H', ⟨by have := HK1.out; have := HJ4.out; have := HK3.out; omega⟩, dR⟩
def belfryref04_text.f (k : Nat) (a0 : ByteArray) : Option (Bool) := if (a0.size : Int) ≤ 256 then ((belfryref02_Utf8.f k a0).bind fun t242 => (some t242)) else (some false)
set_option maxHeartbeats 8000000 in
set_option maxRecDepth 100000 in
theorem belfryref04_text.calls (k : Nat) (a0 : ByteArray) (r : Bool) (w : World) (h : belfryref04_text.f k a0 = some r) :
  Calls Tryz.prog 97 #[.string a0] w fun e w' => e = .returned (.bool r) ∧ Drawn0 w w' := by
 have H : (if (a0.size : Int) ≤ 256 then ((belfryref02_Utf8.f k a0).bind fun t242 => (some t242)) else (some false)) = some r := h
 clear h; by_cases c2 : (a0.size : Int) ≤ 256; rotate_left
 ·
  rw [if_neg c2] at H
  have c2b0 : decide ((a0.size : Int) ≤ 256) = false := decide_eq_false c2
  have c2b1 : decide (a0.size ≤ 256) = false := decide_eq_false (by omega)
  clear c2
  obtain rfl := Option.some.inj H
  go_enter Tryz.func97, Tryz.ntmps97
  go_wp2; go_ret
  exact ⟨sR, dR⟩
 rw [if_pos c2] at H
 have c2b0 : decide ((a0.size : Int) ≤ 256) = true := decide_eq_true c2
 have c2b1 : decide (a0.size ≤ 256) = true := decide_eq_true (by omega)
 clear c2
 replace H := Option.bind_eq_some_iff.mp H
 obtain ⟨t242, A30, H⟩ := H
 replace H : (some t242) = some r := H
 have A3 := Aside0.mk A30; clear A30
 obtain rfl := Option.some.inj H
 go_enter Tryz.func97, Tryz.ntmps97
 go_wp2_with (first | (go_at_call 130; (with_reducible refine (belfryref02_Utf8.calls k a0 t242 _ A3.out).mono ?_); rintro e w' ⟨rfl, ⟨nd, rfl⟩⟩))
 go_ret
 exact ⟨sR, dR⟩
end Go.Proofs.YtkedidjjhhjdbaaGreatDoor.Pr
end
section
set_option linter.unusedVariables false
set_option linter.unusedSimpArgs false
namespace Go.Proofs.YtkedidjjhhjdbaaGreatDoor.Pr
open Go.RowKit Go.Proofs.YtkedidjjhhjdbaaGreatDoorW.PrintWords Go.Proofs.YtkedidjjhhjdbaaGreatDoorW.PrintLast Go.Proofs.YtkedidjjhhjdbaaGreatDoorW.PrintMore
theorem wrap_small {n : Int} (h0 : -9223372036854775808 ≤ n) (h1 : n < 9223372036854775808) : wrap64 n = n := by unfold wrap64; omega
def inr (c lo hi : Int) : Bool := decide (lo ≤ c) && decide (c ≤ hi)
def chkF (s : ByteArray) (i : Nat) : Nat → Nat → Int → Int → Bool
  | _, 0, _, _ => true
  | m, d + 1, lo, hi => inr (bt s ((i : Int) + m)) lo hi && chkF s i (m + 1) d 128 191
theorem u_l1 (s : ByteArray) (hs : s.size ≤ 256) (i n K : Nat) (v : Bool) (hin : i + n < s.size) (hn : n ≤ 3) (hnext : ∀ k, K ≤ k → belfryref02_Utf8.l0 k s ((i + n + 1 : Nat) : Int) = some v) :
  ∀ (d m : Nat) (lo hi : Int), m + d = n + 1 → ∀ k, K + d + 1 ≤ k → belfryref02_Utf8.l1 k s (i : Int) (n : Int) lo hi (m : Int) = some (chkF s i m d lo hi && v)
 | _, _, _, _, _, 0, hk => absurd hk (by omega)
 | 0, m, lo, hi, hm, k + 1, hk => by
  rw [belfryref02_Utf8.l1, if_neg (by omega), wrap_small (n := (i : Int) + n) (by omega) (by omega), wrap_small (n := (i : Int) + n + 1) (by omega) (by omega)]
  have := hnext k (by omega)
  rw [show ((i + n + 1 : Nat) : Int) = (i : Int) + (n : Int) + 1 by omega] at this
  rw [this, chkF, Bool.true_and]
 | d + 1, m, lo, hi, hm, k + 1, hk => by
  have ih := u_l1 s hs i n K v hin hn hnext d (m + 1) 128 191 (by omega) k (by omega)
  rw [show (((m + 1 : Nat)) : Int) = (m : Int) + 1 by omega] at ih
  rw [belfryref02_Utf8.l1, if_pos (by omega), wrap_small (by omega) (by omega), if_pos (by omega), if_pos (by omega), wrap_small (n := (m : Int) + 1) (by omega) (by omega), ih, chkF, inr]
  generalize bt s ((i : Int) + m) = c
  by_cases h1 : c < lo
  · rw [if_pos h1, decide_eq_false (show ¬ lo ≤ c by omega)]; simp
  rw [if_neg h1, decide_eq_true (show lo ≤ c by omega)]
  by_cases h2 : c > hi; rotate_left
  · rw [if_neg h2, decide_eq_true (show c ≤ hi by omega)]; simp
  rw [if_pos h2, decide_eq_false (show ¬ c ≤ hi by omega)]; simp
theorem u_j4 (s : ByteArray) (hs : s.size ≤ 256) (i n K : Nat) (v : Bool) (hi0 : i < s.size) (hn : n ≤ 3) (hnext : i + n < s.size → ∀ k, K ≤ k → belfryref02_Utf8.l0 k s ((i + n + 1 : Nat) : Int) = some v) (lo hi : Int) :
  ∀ k, K + n + 3 ≤ k → belfryref02_Utf8.j4 k s (i : Int) (n : Int) lo hi = some (decide (i + n < s.size) && (chkF s i 1 n lo hi && v))
 | 0, hk => absurd hk (by omega)
 | k + 1, hk => by
  rw [belfryref02_Utf8.j4, wrap_small (by omega) (by omega)]; by_cases h : i + n < s.size; rotate_left
  · rw [if_pos (by omega), decide_eq_false h, Bool.false_and]
  rw [if_neg (by omega), decide_eq_true h, Bool.true_and]
  exact u_l1 s hs i n K v h hn (hnext h) n 1 lo hi (by omega) k (by omega)
theorem bt_drop (s : ByteArray) (i j : Nat) : bt s ((i : Int) + (j : Int)) = ((((s.data.toList.drop i).getD j 0).toNat : Nat) : Int) := by
 unfold bt
 have e : ((i : Int) + (j : Int)).toNat = i + j := by omega
 by_cases h : ((i : Int) + (j : Int)).toNat < s.size; rotate_left
 ·
  rw [dif_neg h]
  have hl : s.data.toList.length ≤ i + j := by rw [Array.length_toList]; rw [e] at h; exact Nat.le_of_not_lt h
  have : (s.data.toList.drop i).getD j 0 = 0 := by
   rw [List.getD_eq_getElem?_getD, List.getElem?_drop, List.getElem?_eq_none hl]; rfl
  rw [this]; rfl
 rw [dif_pos h]
 have hl : i + j < s.data.toList.length := by rw [Array.length_toList]; rw [e] at h; exact h
 have : (s.data.toList.drop i).getD j 0 = s.data.toList[i + j] := by
  rw [List.getD_eq_getElem?_getD, List.getElem?_drop, List.getElem?_eq_getElem hl]; rfl
 rw [this]
 congr 2
theorem m1 {p : Prop} [Decidable p] {x : Bool} (hx : x = decide (¬ p)) (v : Nat → Bool) (n : Nat) : (x && v n) = match (if p then none else some n : Option Nat) with | none => false | some k => v k := by
 subst hx
 by_cases h : p <;> simp [h]
theorem drop_ne {s : ByteArray} {i : Nat} (h : i < s.size) : s.data.toList.drop i ≠ [] := by
 intro e
 have := List.drop_eq_nil_iff.1 e
 rw [Array.length_toList] at this
 exact absurd h (Nat.not_lt.2 this)
theorem utf8_l0 (s : ByteArray) (hs : s.size ≤ 256) : ∀ (N i : Nat), i ≤ s.size → s.size - i < N → ∃ K, ∀ k, K ≤ k → belfryref02_Utf8.l0 k s (i : Int) = some (Lib.validD (s.data.toList.drop i))
 | 0, _, _, h => absurd h (by omega)
 | N + 1, i, hi, hN => by
  by_cases hlt : i < s.size
  case neg =>
   refine ⟨1, fun k hk => ?_⟩
   obtain ⟨k, rfl⟩ : ∃ j, k = j + 1 := ⟨k - 1, by omega⟩
   have : s.data.toList.drop i = [] := List.drop_eq_nil_iff.2 (by rw [Array.length_toList]; exact Nat.le_of_not_lt hlt)
   rw [belfryref02_Utf8.l0, if_neg (by omega), this]; rfl
  case pos =>
   have next : ∀ n : Nat, ∃ K, i + n < s.size → ∀ k, K ≤ k → belfryref02_Utf8.l0 k s ((i + n + 1 : Nat) : Int) = some (Lib.validD ((s.data.toList.drop i).drop (n + 1))) := fun n => by
    by_cases h : i + n < s.size; rotate_left
    · exact ⟨0, fun h' => absurd h' h⟩
    obtain ⟨K, hK⟩ := utf8_l0 s hs N (i + n + 1) (by omega) (by omega)
    refine ⟨K, fun _ k hk => ?_⟩
    rw [hK k hk, List.drop_drop]
    congr 3
   have hne := drop_ne hlt
   have hlen : (s.data.toList.drop i).length = s.size - i := by rw [List.length_drop, Array.length_toList]; rfl
   have b0 := bt_drop s i 0; have b1 := bt_drop s i 1; have b2 := bt_drop s i 2; have b3 := bt_drop s i 3
   simp only [Int.natCast_zero, Int.add_zero] at b0
   have lead := fun h => Lib.validD_lead (s.data.toList.drop i) hne h
   rw [hlen] at lead
   obtain ⟨K0, next0⟩ := next 0
   obtain ⟨K1, next1⟩ := next 1
   obtain ⟨K2, next2⟩ := next 2
   obtain ⟨K3, next3⟩ := next 3
   refine ⟨K0 + K1 + K2 + K3 + 20, fun k hk => ?_⟩
   obtain ⟨k, rfl⟩ : ∃ j, k = j + 5 := ⟨k - 5, by omega⟩
   have r0 := fun lo hi k hk => u_j4 s hs i 0 K0 _ hlt (by omega) next0 lo hi k hk
   have r1 := fun lo hi k hk => u_j4 s hs i 1 K1 _ hlt (by omega) next1 lo hi k hk
   have r2 := fun lo hi k hk => u_j4 s hs i 2 K2 _ hlt (by omega) next2 lo hi k hk
   have r3 := fun lo hi k hk => u_j4 s hs i 3 K3 _ hlt (by omega) next3 lo hi k hk
   generalize hl : s.data.toList.drop i = l at *
   have hc := (l.getD 0 0).toNat_lt; have hc1 := (l.getD 1 0).toNat_lt; have hc2 := (l.getD 2 0).toNat_lt; have hc3 := (l.getD 3 0).toNat_lt
   have hv0 : l.getD 0 0 = l.getD 0 0 := rfl
   obtain ⟨c, hcc⟩ : ∃ c, c = (l.getD 0 0).toNat := ⟨_, rfl⟩
   rw [← hcc] at b0 lead hc
   by_cases c0 : c < 128
   ·
    have e : Lib.validD l = Lib.validD (l.drop 1) := by
     cases l with
     | nil => exact absurd rfl hne
     | cons b t => rw [Lib.validD_cons b t (by simpa using (hcc ▸ c0))]; rfl
    have r := r0 128 191 (k + 4) (by omega)
    rw [decide_eq_true (show i + 0 < s.size by omega), chkF, Bool.true_and, Bool.true_and, ← e] at r
    rw [belfryref02_Utf8.l0, if_pos (by omega), if_pos (by omega), b0, if_pos (by omega)]; exact r
   replace lead := lead (by omega)
   rw [lead]
   have nope : ∀ sz, sz = 1 → Lib.checkN (s.size - i) (l.getD 1 0).toNat (l.getD 2 0).toNat (l.getD 3 0).toNat sz (Lib.accLo (Lib.firstT c / 16)) (Lib.accHi (Lib.firstT c / 16)) = none := fun sz h => by simp [Lib.checkN, h]
   rw [belfryref02_Utf8.l0, if_pos (by omega), if_pos (by omega), b0, if_neg (by omega)]; by_cases c1 : c < 194
   · rw [nope _ (by simp [Lib.firstT, c0, c1]), if_neg (by omega), belfryref02_Utf8.j1, if_neg (by simp), if_neg (by omega), belfryref02_Utf8.j2, if_neg (by simp), if_neg (by omega), belfryref02_Utf8.j3, if_neg (by simp)]
   rw [if_pos (by omega)]; by_cases d1 : c < 224
   ·
    have f1 : Lib.firstT c % 8 = 2 := by simp [Lib.firstT, c0, c1, d1]
    have f2 : Lib.accLo (Lib.firstT c / 16) = 128 := by simp [Lib.firstT, c0, c1, d1, Lib.accLo]
    have f3 : Lib.accHi (Lib.firstT c / 16) = 191 := by simp [Lib.firstT, c0, c1, d1, Lib.accHi]
    have r := r1 128 191 (k + 3) (by omega); rw [f1, f2, f3]; rw [belfryref02_Utf8.j1, if_pos (by simp; omega)]
    refine Eq.trans r ?_
    congr 1
    rw [← Bool.and_assoc]; rw [Lib.checkN, if_pos rfl]
    refine m1 ?_ (fun j => Lib.validD (l.drop j)) _
    simp only [chkF, inr, b1, b2, b3, Nat.reduceAdd]; rw [Bool.eq_iff_iff]; simp only [Bool.and_eq_true, decide_eq_true_eq, and_true]; omega
   by_cases d2 : c = 224
   ·
    have f1 : Lib.firstT c % 8 = 3 := by simp [Lib.firstT, c0, c1, d1, d2]
    have f2 : Lib.accLo (Lib.firstT c / 16) = 160 := by simp [Lib.firstT, c0, c1, d1, d2, Lib.accLo]
    have f3 : Lib.accHi (Lib.firstT c / 16) = 191 := by simp [Lib.firstT, c0, c1, d1, d2, Lib.accHi]
    have r := r2 160 191 (k + 2) (by omega); rw [f1, f2, f3]; rw [belfryref02_Utf8.j1, if_neg (by simp; omega), if_pos (by omega), belfryref02_Utf8.j2, if_pos (by simp; omega)]; rw [if_pos (by omega), if_neg (by omega)]
    refine Eq.trans r ?_
    congr 1
    rw [← Bool.and_assoc]; rw [Lib.checkN, if_neg (by decide), if_pos rfl]
    refine m1 ?_ (fun j => Lib.validD (l.drop j)) _
    simp only [chkF, inr, b1, b2, b3, Nat.reduceAdd]; rw [Bool.eq_iff_iff]; simp only [Bool.and_eq_true, decide_eq_true_eq, and_true]; omega
   by_cases d3 : c < 237
   ·
    have f1 : Lib.firstT c % 8 = 3 := by simp [Lib.firstT, c0, c1, d1, d2, d3]
    have f2 : Lib.accLo (Lib.firstT c / 16) = 128 := by simp [Lib.firstT, c0, c1, d1, d2, d3, Lib.accLo]
    have f3 : Lib.accHi (Lib.firstT c / 16) = 191 := by simp [Lib.firstT, c0, c1, d1, d2, d3, Lib.accHi]
    have r := r2 128 191 (k + 2) (by omega); rw [f1, f2, f3]; rw [belfryref02_Utf8.j1, if_neg (by simp; omega), if_pos (by omega), belfryref02_Utf8.j2, if_pos (by simp; omega)]; rw [if_neg (by omega), if_neg (by omega)]
    refine Eq.trans r ?_
    congr 1
    rw [← Bool.and_assoc]; rw [Lib.checkN, if_neg (by decide), if_pos rfl]
    refine m1 ?_ (fun j => Lib.validD (l.drop j)) _
    simp only [chkF, inr, b1, b2, b3, Nat.reduceAdd]; rw [Bool.eq_iff_iff]; simp only [Bool.and_eq_true, decide_eq_true_eq, and_true]; omega
   by_cases d4 : c = 237
   ·
    have f1 : Lib.firstT c % 8 = 3 := by simp [Lib.firstT, c0, c1, d1, d2, d3, d4]
    have f2 : Lib.accLo (Lib.firstT c / 16) = 128 := by simp [Lib.firstT, c0, c1, d1, d2, d3, d4, Lib.accLo]
    have f3 : Lib.accHi (Lib.firstT c / 16) = 159 := by simp [Lib.firstT, c0, c1, d1, d2, d3, d4, Lib.accHi]
    have r := r2 128 159 (k + 2) (by omega); rw [f1, f2, f3]; rw [belfryref02_Utf8.j1, if_neg (by simp; omega), if_pos (by omega), belfryref02_Utf8.j2, if_pos (by simp; omega)]; rw [if_neg (by omega), if_pos (by omega)]
    refine Eq.trans r ?_
    congr 1
    rw [← Bool.and_assoc]; rw [Lib.checkN, if_neg (by decide), if_pos rfl]
    refine m1 ?_ (fun j => Lib.validD (l.drop j)) _
    simp only [chkF, inr, b1, b2, b3, Nat.reduceAdd]; rw [Bool.eq_iff_iff]; simp only [Bool.and_eq_true, decide_eq_true_eq, and_true]; omega
   by_cases d5 : c < 240
   ·
    have f1 : Lib.firstT c % 8 = 3 := by simp [Lib.firstT, c0, c1, d1, d2, d3, d4, d5]
    have f2 : Lib.accLo (Lib.firstT c / 16) = 128 := by simp [Lib.firstT, c0, c1, d1, d2, d3, d4, d5, Lib.accLo]
    have f3 : Lib.accHi (Lib.firstT c / 16) = 191 := by simp [Lib.firstT, c0, c1, d1, d2, d3, d4, d5, Lib.accHi]
    have r := r2 128 191 (k + 2) (by omega); rw [f1, f2, f3]; rw [belfryref02_Utf8.j1, if_neg (by simp; omega), if_pos (by omega), belfryref02_Utf8.j2, if_pos (by simp; omega)]; rw [if_neg (by omega), if_neg (by omega)]
    refine Eq.trans r ?_
    congr 1
    rw [← Bool.and_assoc]; rw [Lib.checkN, if_neg (by decide), if_pos rfl]
    refine m1 ?_ (fun j => Lib.validD (l.drop j)) _
    simp only [chkF, inr, b1, b2, b3, Nat.reduceAdd]; rw [Bool.eq_iff_iff]; simp only [Bool.and_eq_true, decide_eq_true_eq, and_true]; omega
   by_cases d6 : c = 240
   ·
    have f1 : Lib.firstT c % 8 = 4 := by simp [Lib.firstT, c0, c1, d1, d2, d3, d4, d5, d6]
    have f2 : Lib.accLo (Lib.firstT c / 16) = 144 := by simp [Lib.firstT, c0, c1, d1, d2, d3, d4, d5, d6, Lib.accLo]
    have f3 : Lib.accHi (Lib.firstT c / 16) = 191 := by simp [Lib.firstT, c0, c1, d1, d2, d3, d4, d5, d6, Lib.accHi]
    have r := r3 144 191 (k + 1) (by omega); rw [f1, f2, f3]; rw [belfryref02_Utf8.j1, if_neg (by simp; omega), if_pos (by omega), belfryref02_Utf8.j2, if_neg (by simp; omega), if_pos (by omega), belfryref02_Utf8.j3, if_pos (by simp; omega)]; rw [if_pos (by omega), if_neg (by omega)]
    refine Eq.trans r ?_
    congr 1
    rw [← Bool.and_assoc]; rw [Lib.checkN, if_neg (by decide), if_neg (by decide), if_pos rfl]
    refine m1 ?_ (fun j => Lib.validD (l.drop j)) _
    simp only [chkF, inr, b1, b2, b3, Nat.reduceAdd]; rw [Bool.eq_iff_iff]; simp only [Bool.and_eq_true, decide_eq_true_eq, and_true]; omega
   by_cases d7 : c < 244
   ·
    have f1 : Lib.firstT c % 8 = 4 := by simp [Lib.firstT, c0, c1, d1, d2, d3, d4, d5, d6, d7]
    have f2 : Lib.accLo (Lib.firstT c / 16) = 128 := by simp [Lib.firstT, c0, c1, d1, d2, d3, d4, d5, d6, d7, Lib.accLo]
    have f3 : Lib.accHi (Lib.firstT c / 16) = 191 := by simp [Lib.firstT, c0, c1, d1, d2, d3, d4, d5, d6, d7, Lib.accHi]
    have r := r3 128 191 (k + 1) (by omega); rw [f1, f2, f3]; rw [belfryref02_Utf8.j1, if_neg (by simp; omega), if_pos (by omega), belfryref02_Utf8.j2, if_neg (by simp; omega), if_pos (by omega), belfryref02_Utf8.j3, if_pos (by simp; omega)]; rw [if_neg (by omega), if_neg (by omega)]
    refine Eq.trans r ?_
    congr 1
    rw [← Bool.and_assoc]; rw [Lib.checkN, if_neg (by decide), if_neg (by decide), if_pos rfl]
    refine m1 ?_ (fun j => Lib.validD (l.drop j)) _
    simp only [chkF, inr, b1, b2, b3, Nat.reduceAdd]; rw [Bool.eq_iff_iff]; simp only [Bool.and_eq_true, decide_eq_true_eq, and_true]; omega
   by_cases d8 : c = 244; rotate_left
   · rw [nope _ (by simp [Lib.firstT, c0, c1, d1, d2, d3, d4, d5, d6, d7, d8]), belfryref02_Utf8.j1, if_neg (by simp; omega), if_pos (by omega), belfryref02_Utf8.j2, if_neg (by simp; omega), if_pos (by omega), belfryref02_Utf8.j3, if_neg (by simp; omega)]
   have f1 : Lib.firstT c % 8 = 4 := by simp [Lib.firstT, c0, c1, d1, d2, d3, d4, d5, d6, d7, d8]
   have f2 : Lib.accLo (Lib.firstT c / 16) = 128 := by simp [Lib.firstT, c0, c1, d1, d2, d3, d4, d5, d6, d7, d8, Lib.accLo]
   have f3 : Lib.accHi (Lib.firstT c / 16) = 143 := by simp [Lib.firstT, c0, c1, d1, d2, d3, d4, d5, d6, d7, d8, Lib.accHi]
   have r := r3 128 143 (k + 1) (by omega); rw [f1, f2, f3]; rw [belfryref02_Utf8.j1, if_neg (by simp; omega), if_pos (by omega), belfryref02_Utf8.j2, if_neg (by simp; omega), if_pos (by omega), belfryref02_Utf8.j3, if_pos (by simp; omega)]; rw [if_neg (by omega), if_pos (by omega)]
   refine Eq.trans r ?_
   congr 1
   rw [← Bool.and_assoc]; rw [Lib.checkN, if_neg (by decide), if_neg (by decide), if_pos rfl]
   refine m1 ?_ (fun j => Lib.validD (l.drop j)) _
   simp only [chkF, inr, b1, b2, b3, Nat.reduceAdd]; rw [Bool.eq_iff_iff]; simp only [Bool.and_eq_true, decide_eq_true_eq, and_true]; omega
end Go.Proofs.YtkedidjjhhjdbaaGreatDoor.Pr
end
