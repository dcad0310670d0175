import Derived.Test.YtnfanpjfhdlddaaGreatDoorQPicks5
import Derived.Test.YtnfanpjfhdlddaaGreatDoorQPicks6
import Derived.Lib.ValidLaws
import Derived.Lib.SliceRun
import Derived.Test.YtnfanpjfhdlddaaGreatDoorQPicks2
import Derived.Sort.AssemblyPlain
import Derived.Shelf.SlSortCmp.WholeK
import Derived.Shelf.SlGeneric
import Derived.Shelf.SlicesE.Clone
import Derived.Ground.SlgnProg
import Derived.Ground.SlsfProg
import Derived.Test.YtnfanpjfhdlddaaGreatDoorProg
import Derived.Shelf.SlSortCmp.NoneTotal
section
namespace Go.Proofs.YtnfanpjfhdlddaaGreatDoor.Pr
open Go.RowKit Go.Proofs.YtnfanpjfhdlddaaGreatDoorW.PrintWords Go.Proofs.YtnfanpjfhdlddaaGreatDoorW.PrintLast Go.Proofs.YtnfanpjfhdlddaaGreatDoorW.PrintMore
attribute [local go_sem] max2_int min2_int max_two min_two max_three min_three max_four min_four strGtr strLeq strGeq
set_option linter.unusedVariables false
set_option linter.unusedSimpArgs false
mutual
def belfryref02_Utf8.l0 : Nat → ByteArray → Int → Option (Bool)
  | 0, _, _ => none
  | k + 1, x0, x3 => if x3 < (x0.size : Int) then (if 0 ≤ x3 then (if (bt x0 x3) < 128 then (belfryref02_Utf8.j4 k x0 x3 0 128 191) else (if (bt x0 x3) ≥ 194 then (belfryref02_Utf8.j1 k x0 x3 (bt x0 x3) 128 191 (decide ((bt x0 x3) ≤ 223))) else (belfryref02_Utf8.j1 k x0 x3 (bt x0 x3) 128 191 false))) else (none)) else (some true)
def belfryref02_Utf8.j4 : Nat → ByteArray → Int → Int → Int → Int → Option (Bool)
  | 0, _, _, _, _, _ => none
  | k + 1, x0, x3, x5, x6, x7 => if x5 ≥ (wrap64 ((x0.size : Int) - x3)) then (some false) else (belfryref02_Utf8.l1 k x0 x3 x5 x6 x7 1)
def belfryref02_Utf8.l1 : Nat → ByteArray → Int → Int → Int → Int → Int → Option (Bool)
  | 0, _, _, _, _, _, _ => none
  | k + 1, x0, x3, x5, x6, x7, x8 => if x8 ≤ x5 then (if 0 ≤ (wrap64 (x3 + x8)) then (if (wrap64 (x3 + x8)) < (x0.size : Int) then (if (bt x0 (wrap64 (x3 + x8))) < x6 then (some false) else (if (bt x0 (wrap64 (x3 + x8))) > x7 then (some false) else (belfryref02_Utf8.l1 k x0 x3 x5 128 191 (wrap64 (x8 + 1))))) else (none)) else (none)) else (belfryref02_Utf8.l0 k x0 (wrap64 ((wrap64 (x3 + x5)) + 1)))
def belfryref02_Utf8.j1 : Nat → ByteArray → Int → Int → Int → Int → Bool → Option (Bool)
  | 0, _, _, _, _, _, _ => none
  | k + 1, x0, x3, x4, x6, x7, x19 => if x19 = true then (belfryref02_Utf8.j4 k x0 x3 1 x6 x7) else (if x4 ≥ 224 then (belfryref02_Utf8.j2 k x0 x3 x4 x6 x7 (decide (x4 ≤ 239))) else (belfryref02_Utf8.j2 k x0 x3 x4 x6 x7 false))
def belfryref02_Utf8.j2 : Nat → ByteArray → Int → Int → Int → Int → Bool → Option (Bool)
  | 0, _, _, _, _, _, _ => none
  | k + 1, x0, x3, x4, x6, x7, x26 => if x26 = true then (if x4 = 224 then (if x4 = 237 then (belfryref02_Utf8.j4 k x0 x3 2 160 159) else (belfryref02_Utf8.j4 k x0 x3 2 160 x7)) else (if x4 = 237 then (belfryref02_Utf8.j4 k x0 x3 2 x6 159) else (belfryref02_Utf8.j4 k x0 x3 2 x6 x7))) else (if x4 ≥ 240 then (belfryref02_Utf8.j3 k x0 x3 x4 x6 x7 (decide (x4 ≤ 244))) else (belfryref02_Utf8.j3 k x0 x3 x4 x6 x7 false))
def belfryref02_Utf8.j3 : Nat → ByteArray → Int → Int → Int → Int → Bool → Option (Bool)
  | 0, _, _, _, _, _, _ => none
  | k + 1, x0, x3, x4, x6, x7, x37 => if x37 = true then (if x4 = 240 then (if x4 = 244 then (belfryref02_Utf8.j4 k x0 x3 3 144 143) else (belfryref02_Utf8.j4 k x0 x3 3 144 x7)) else (if x4 = 244 then (belfryref02_Utf8.j4 k x0 x3 3 x6 143) else (belfryref02_Utf8.j4 k x0 x3 3 x6 x7))) else (some false)
end
def belfryref02_Utf8.f (k : Nat) (a0 : ByteArray) : Option (Bool) := belfryref02_Utf8.l0 k a0 0
set_option maxHeartbeats 8000000 in
set_option maxRecDepth 100000 in
theorem belfryref02_Utf8.calls (k : Nat) (a0 : ByteArray) (r : Bool) (w : World) (h : belfryref02_Utf8.f k a0 = some r) :
  Calls Tryz.prog 57 #[.string a0] w fun e w' => e = .returned (.bool r) ∧ Drawn0 w w' := by
 have H : (belfryref02_Utf8.l0 k a0 0) = some r := h
 clear h
 have H' := Aside0.mk H
 clear H
 go_enter Tryz.func57, Tryz.ntmps57
 go_wp2
 go_loopg [3] k (fun kq v3 w' => ∃ (x3_1 : Int), v3 = .int .i64 x3_1 ∧ Aside0 (belfryref02_Utf8.l0 kq a0 x3_1 = some r) ∧ Aside0 (kq ≤ k) ∧ Drawn0 w w')
 case atStart => exact ⟨(0), (by first | rfl | (simp; done) | (simp [*]; done)), H', ⟨Nat.le_refl _⟩, by repeat (first | exact Drawn0.refl _ | apply Drawn0.step)⟩
 case round =>
  clear H'
  obtain ⟨x3_1, rfl, HA, HK1, ⟨m1, rfl⟩⟩ := hrel
  cases gk with
  | zero => exact absurd HA.out (by simp [belfryref02_Utf8.l0])
  | succ k1 =>
   have H := HA.out
   clear HA
   simp only [belfryref02_Utf8.l0] at H
   by_cases c2 : x3_1 < (a0.size : Int)
   ·
    rw [if_pos c2] at H
    have c2b0 : decide (x3_1 < (a0.size : Int)) = true := decide_eq_true c2
    clear c2
    by_cases c3 : 0 ≤ x3_1
    ·
     rw [if_pos c3] at H
     have c3b0 : decide (0 ≤ x3_1) = true := decide_eq_true c3
     clear c3
     have HC5 := Aside0.mk H
     clear H
     have p4 : 0 ≤ (x3_1 : Int) := of_decide_eq_true (by first | (with_reducible assumption) | assumption)
     have q4 : x3_1 < (a0.size : Int) := of_decide_eq_true (by first | (with_reducible assumption) | assumption)
     have hx4 := bt_at a0 x3_1
     replace p4 := eq_true p4
     replace q4 := eq_true q4
     go_upto_block 2 with (fail)
     go_cut [5, 6, 7] (fun v5 v6 v7 wc => ∃ (kq : Nat) (x5_4 : Int) (x6_4 : Int) (x7_4 : Int), v5 = .int .i64 x5_4 ∧ v6 = .int .u8 x6_4 ∧ v7 = .int .u8 x7_4 ∧ Aside0 (belfryref02_Utf8.j4 kq a0 x3_1 x5_4 x6_4 x7_4 = some r) ∧ Aside0 (kq ≤ k1) ∧ Drawn0 w wc)
     case first =>
      have H := HC5.out
      clear HC5
      by_cases c6 : (bt a0 x3_1) < 128
      ·
       rw [if_pos c6] at H
       have c6b0 : decide ((bt a0 x3_1) < 128) = true := decide_eq_true c6
       clear c6
       (first | rw [c6b0] | (simp only [i64_w, i32_w]; rw [c6b0]) | skip)
       have H' := Aside0.mk H
       clear H
       go_wp2
       go_meet
       case rel => exact ⟨_, (0), (128), (191), (by first | rfl | (simp; done) | (simp [*]; done)), (by first | rfl | (simp; done) | (simp [*]; done)), (by first | rfl | (simp; done) | (simp [*]; done)), H', ⟨by have := HK1.out; first | omega | exact Nat.le_refl _⟩, by repeat (first | exact Drawn0.refl _ | apply Drawn0.step)⟩
      ·
       rw [if_neg c6] at H
       have c6b0 : decide ((bt a0 x3_1) < 128) = false := decide_eq_false c6
       clear c6
       (first | rw [c6b0] | (simp only [i64_w, i32_w]; rw [c6b0]) | skip)
       have HC7 := Aside0.mk H
       clear H
       go_upto_region 9 with (fail)
       go_cut [19] (fun v19 wc => ∃ (kq : Nat) (x19_6 : Bool), v19 = .bool x19_6 ∧ Aside0 (belfryref02_Utf8.j1 kq a0 x3_1 (bt a0 x3_1) 128 191 x19_6 = some r) ∧ Aside0 (kq ≤ k1) ∧ Drawn0 w wc)
       case first =>
        have H := HC7.out
        clear HC7
        by_cases c8 : (bt a0 x3_1) ≥ 194
        ·
         rw [if_pos c8] at H
         have c8b0 : decide (194 ≤ (bt a0 x3_1)) = true := decide_eq_true c8
         clear c8
         (first | rw [c8b0] | (simp only [i64_w, i32_w]; rw [c8b0]) | skip)
         have H' := Aside0.mk H
         clear H
         go_wp2
         go_meet
         case rel => exact ⟨_, (decide ((bt a0 x3_1) ≤ 223)), (by first | rfl | (simp; done) | (simp [*]; done)), H', ⟨by have := HK1.out; first | omega | exact Nat.le_refl _⟩, by repeat (first | exact Drawn0.refl _ | apply Drawn0.step)⟩
        ·
         rw [if_neg c8] at H
         have c8b0 : decide (194 ≤ (bt a0 x3_1)) = false := decide_eq_false c8
         clear c8
         (first | rw [c8b0] | (simp only [i64_w, i32_w]; rw [c8b0]) | skip)
         have H' := Aside0.mk H
         clear H
         go_wp2
         go_meet
         case rel => exact ⟨_, (false), (by first | rfl | (simp; done) | (simp [*]; done)), H', ⟨by have := HK1.out; first | omega | exact Nat.le_refl _⟩, by repeat (first | exact Drawn0.refl _ | apply Drawn0.step)⟩
       case rest =>
        clear HC7
        try clear c2
        try clear c2b0
        try clear p2
        try clear c3
        try clear c3b0
        try clear p4
        try clear q4
        try clear hx4
        try clear c5
        try clear c6
        try clear c6b0
        try clear c8
        try clear c8b0
        try clear p4
        try clear q4
        obtain ⟨kq, x19_6, rfl, HA, HJ6, ⟨mc6, rfl⟩⟩ := hcut
        cases kq with
        | zero => exact absurd HA.out (by simp [belfryref02_Utf8.j1])
        | succ kj6 =>
         have H := HA.out
         clear HA
         simp only [belfryref02_Utf8.j1] at H
         by_cases c9 : x19_6 = true
         ·
          subst c9
          have H1 : (belfryref02_Utf8.j4 kj6 a0 x3_1 1 128 191) = some r := by rw [if_pos rfl] at H; exact H
          clear H
          have H := H1
          clear H1
          have H' := Aside0.mk H
          clear H
          go_wp2
          go_meet
          case rel => exact ⟨_, (1), (128), (191), (by first | rfl | (simp; done) | (simp [*]; done)), (by first | rfl | (simp; done) | (simp [*]; done)), (by first | rfl | (simp; done) | (simp [*]; done)), H', ⟨by have := HK1.out; have := HJ6.out; first | omega | exact Nat.le_refl _⟩, by repeat (first | exact Drawn0.refl _ | apply Drawn0.step)⟩
         ·
          replace c9 := Bool.eq_false_iff.mpr c9
          subst c9
          have H1 : (if (bt a0 x3_1) ≥ 224 then (belfryref02_Utf8.j2 kj6 a0 x3_1 (bt a0 x3_1) 128 191 (decide ((bt a0 x3_1) ≤ 239))) else (belfryref02_Utf8.j2 kj6 a0 x3_1 (bt a0 x3_1) 128 191 false)) = some r := by rw [if_neg (show ¬ (false = true) by decide)] at H; exact H
          clear H
          have H := H1
          clear H1
          have HC10 := Aside0.mk H
          clear H
          go_upto_region 11 with (fail)
          go_cut [26] (fun v26 wc => ∃ (kq : Nat) (x26_9 : Bool), v26 = .bool x26_9 ∧ Aside0 (belfryref02_Utf8.j2 kq a0 x3_1 (bt a0 x3_1) 128 191 x26_9 = some r) ∧ Aside0 (kq ≤ kj6) ∧ Drawn0 w wc)
          case first =>
           have H := HC10.out
           clear HC10
           by_cases c11 : (bt a0 x3_1) ≥ 224
           ·
            rw [if_pos c11] at H
            have c11b0 : decide (224 ≤ (bt a0 x3_1)) = true := decide_eq_true c11
            clear c11
            (first | rw [c11b0] | (simp only [i64_w, i32_w]; rw [c11b0]) | skip)
            have H' := Aside0.mk H
            clear H
            go_wp2
            go_meet
            case rel => exact ⟨_, (decide ((bt a0 x3_1) ≤ 239)), (by first | rfl | (simp; done) | (simp [*]; done)), H', ⟨by have := HK1.out; have := HJ6.out; first | omega | exact Nat.le_refl _⟩, by repeat (first | exact Drawn0.refl _ | apply Drawn0.step)⟩
           ·
            rw [if_neg c11] at H
            have c11b0 : decide (224 ≤ (bt a0 x3_1)) = false := decide_eq_false c11
            clear c11
            (first | rw [c11b0] | (simp only [i64_w, i32_w]; rw [c11b0]) | skip)
            have H' := Aside0.mk H
            clear H
            go_wp2
            go_meet
            case rel => exact ⟨_, (false), (by first | rfl | (simp; done) | (simp [*]; done)), H', ⟨by have := HK1.out; have := HJ6.out; first | omega | exact Nat.le_refl _⟩, by repeat (first | exact Drawn0.refl _ | apply Drawn0.step)⟩
          case rest =>
           clear HC10
           try clear c1
           try clear c2
           try clear c2b0
           try clear p2
           try clear c3
           try clear c3b0
           try clear p4
           try clear q4
           try clear hx4
           try clear c5
           try clear c6
           try clear c6b0
           try clear c8
           try clear c8b0
           try clear c9
           try clear c11
           try clear c11b0
           try clear p2
           try clear p4
           try clear q4
           obtain ⟨kq, x26_9, rfl, HA, HJ9, ⟨mc9, rfl⟩⟩ := hcut
           cases kq with
           | zero => exact absurd HA.out (by simp [belfryref02_Utf8.j2])
           | succ kj9 =>
            have H := HA.out
            clear HA
            simp only [belfryref02_Utf8.j2] at H
            by_cases c12 : x26_9 = true
            ·
             subst c12
             have H1 : (if (bt a0 x3_1) = 224 then (if (bt a0 x3_1) = 237 then (belfryref02_Utf8.j4 kj9 a0 x3_1 2 160 159) else (belfryref02_Utf8.j4 kj9 a0 x3_1 2 160 191)) else (if (bt a0 x3_1) = 237 then (belfryref02_Utf8.j4 kj9 a0 x3_1 2 128 159) else (belfryref02_Utf8.j4 kj9 a0 x3_1 2 128 191))) = some r := by rw [if_pos rfl] at H; exact H
             clear H
             have H := H1
             clear H1
             by_cases c13 : (bt a0 x3_1) = 224
             ·
              rw [if_pos c13] at H
              have c13b0 : ((bt a0 x3_1) == 224) = true := beq_iff_eq.mpr c13
              have c13b1 : ((bt a0 x3_1) != 224) = false := bne_eq_false_iff_eq.mpr c13
              clear c13
              by_cases c14 : (bt a0 x3_1) = 237
              ·
               rw [if_pos c14] at H
               have c14b0 : ((bt a0 x3_1) == 237) = true := beq_iff_eq.mpr c14
               have c14b1 : ((bt a0 x3_1) != 237) = false := bne_eq_false_iff_eq.mpr c14
               clear c14
               have H' := Aside0.mk H
               clear H
               go_wp2
               go_meet
               case rel => exact ⟨_, (2), (160), (159), (by first | rfl | (simp; done) | (simp [*]; done)), (by first | rfl | (simp; done) | (simp [*]; done)), (by first | rfl | (simp; done) | (simp [*]; done)), H', ⟨by have := HK1.out; have := HJ6.out; have := HJ9.out; first | omega | exact Nat.le_refl _⟩, by repeat (first | exact Drawn0.refl _ | apply Drawn0.step)⟩
              ·
               rw [if_neg c14] at H
               have c14b0 : ((bt a0 x3_1) == 237) = false := beq_eq_false_iff_ne.mpr c14
               have c14b1 : ((bt a0 x3_1) != 237) = true := bne_iff_ne.mpr c14
               have H' := Aside0.mk H
               clear H
               go_wp2
               go_meet
               case rel => exact ⟨_, (2), (160), (191), (by first | rfl | (simp; done) | (simp [*]; done)), (by first | rfl | (simp; done) | (simp [*]; done)), (by first | rfl | (simp; done) | (simp [*]; done)), H', ⟨by have := HK1.out; have := HJ6.out; have := HJ9.out; first | omega | exact Nat.le_refl _⟩, by repeat (first | exact Drawn0.refl _ | apply Drawn0.step)⟩
             ·
              rw [if_neg c13] at H
              have c13b0 : ((bt a0 x3_1) == 224) = false := beq_eq_false_iff_ne.mpr c13
              have c13b1 : ((bt a0 x3_1) != 224) = true := bne_iff_ne.mpr c13
              by_cases c15 : (bt a0 x3_1) = 237
              ·
               rw [if_pos c15] at H
               have c15b0 : ((bt a0 x3_1) == 237) = true := beq_iff_eq.mpr c15
               have c15b1 : ((bt a0 x3_1) != 237) = false := bne_eq_false_iff_eq.mpr c15
               clear c15
               have H' := Aside0.mk H
               clear H
               go_wp2
               go_meet
               case rel => exact ⟨_, (2), (128), (159), (by first | rfl | (simp; done) | (simp [*]; done)), (by first | rfl | (simp; done) | (simp [*]; done)), (by first | rfl | (simp; done) | (simp [*]; done)), H', ⟨by have := HK1.out; have := HJ6.out; have := HJ9.out; first | omega | exact Nat.le_refl _⟩, by repeat (first | exact Drawn0.refl _ | apply Drawn0.step)⟩
              ·
               rw [if_neg c15] at H
               have c15b0 : ((bt a0 x3_1) == 237) = false := beq_eq_false_iff_ne.mpr c15
               have c15b1 : ((bt a0 x3_1) != 237) = true := bne_iff_ne.mpr c15
               have H' := Aside0.mk H
               clear H
               go_wp2
               go_meet
               case rel => exact ⟨_, (2), (128), (191), (by first | rfl | (simp; done) | (simp [*]; done)), (by first | rfl | (simp; done) | (simp [*]; done)), (by first | rfl | (simp; done) | (simp [*]; done)), H', ⟨by have := HK1.out; have := HJ6.out; have := HJ9.out; first | omega | exact Nat.le_refl _⟩, by repeat (first | exact Drawn0.refl _ | apply Drawn0.step)⟩
            ·
             replace c12 := Bool.eq_false_iff.mpr c12
             subst c12
             have H1 : (if (bt a0 x3_1) ≥ 240 then (belfryref02_Utf8.j3 kj9 a0 x3_1 (bt a0 x3_1) 128 191 (decide ((bt a0 x3_1) ≤ 244))) else (belfryref02_Utf8.j3 kj9 a0 x3_1 (bt a0 x3_1) 128 191 false)) = some r := by rw [if_neg (show ¬ (false = true) by decide)] at H; exact H
             clear H
             have H := H1
             clear H1
             have HC16 := Aside0.mk H
             clear H
             go_upto_region 17 with (fail)
             go_cut [37] (fun v37 wc => ∃ (kq : Nat) (x37_15 : Bool), v37 = .bool x37_15 ∧ Aside0 (belfryref02_Utf8.j3 kq a0 x3_1 (bt a0 x3_1) 128 191 x37_15 = some r) ∧ Aside0 (kq ≤ kj9) ∧ Drawn0 w wc)
             case first =>
              have H := HC16.out
              clear HC16
              by_cases c17 : (bt a0 x3_1) ≥ 240
              ·
               rw [if_pos c17] at H
               have c17b0 : decide (240 ≤ (bt a0 x3_1)) = true := decide_eq_true c17
               clear c17
               (first | rw [c17b0] | (simp only [i64_w, i32_w]; rw [c17b0]) | skip)
               have H' := Aside0.mk H
               clear H
               go_wp2
               go_meet
               case rel => exact ⟨_, (decide ((bt a0 x3_1) ≤ 244)), (by first | rfl | (simp; done) | (simp [*]; done)), H', ⟨by have := HK1.out; have := HJ6.out; have := HJ9.out; first | omega | exact Nat.le_refl _⟩, by repeat (first | exact Drawn0.refl _ | apply Drawn0.step)⟩
              ·
               rw [if_neg c17] at H
               have c17b0 : decide (240 ≤ (bt a0 x3_1)) = false := decide_eq_false c17
               clear c17
               (first | rw [c17b0] | (simp only [i64_w, i32_w]; rw [c17b0]) | skip)
               have H' := Aside0.mk H
               clear H
               go_wp2
               go_meet
               case rel => exact ⟨_, (false), (by first | rfl | (simp; done) | (simp [*]; done)), H', ⟨by have := HK1.out; have := HJ6.out; have := HJ9.out; first | omega | exact Nat.le_refl _⟩, by repeat (first | exact Drawn0.refl _ | apply Drawn0.step)⟩
             case rest =>
              clear HC16
              try clear c1
              try clear c2
              try clear c2b0
              try clear p2
              try clear c3
              try clear c3b0
              try clear p4
              try clear q4
              try clear hx4
              try clear c5
              try clear c6
              try clear c6b0
              try clear c8
              try clear c8b0
              try clear c9
              try clear c11
              try clear c11b0
              try clear c12
              try clear c13
              try clear c13b0
              try clear c13b1
              try clear c14
              try clear c14b0
              try clear c14b1
              try clear c15
              try clear c15b0
              try clear c15b1
              try clear c17
              try clear c17b0
              try clear p2
              try clear p4
              try clear q4
              obtain ⟨kq, x37_15, rfl, HA, HJ15, ⟨mc15, rfl⟩⟩ := hcut
              cases kq with
              | zero => exact absurd HA.out (by simp [belfryref02_Utf8.j3])
              | succ kj15 =>
               have H := HA.out
               clear HA
               simp only [belfryref02_Utf8.j3] at H
               by_cases c18 : x37_15 = true
               ·
                subst c18
                have H1 : (if (bt a0 x3_1) = 240 then (if (bt a0 x3_1) = 244 then (belfryref02_Utf8.j4 kj15 a0 x3_1 3 144 143) else (belfryref02_Utf8.j4 kj15 a0 x3_1 3 144 191)) else (if (bt a0 x3_1) = 244 then (belfryref02_Utf8.j4 kj15 a0 x3_1 3 128 143) else (belfryref02_Utf8.j4 kj15 a0 x3_1 3 128 191))) = some r := by rw [if_pos rfl] at H; exact H
                clear H
                have H := H1
                clear H1
                by_cases c19 : (bt a0 x3_1) = 240
                ·
                 rw [if_pos c19] at H
                 have c19b0 : ((bt a0 x3_1) == 240) = true := beq_iff_eq.mpr c19
                 have c19b1 : ((bt a0 x3_1) != 240) = false := bne_eq_false_iff_eq.mpr c19
                 clear c19
                 by_cases c20 : (bt a0 x3_1) = 244
                 ·
                  rw [if_pos c20] at H
                  have c20b0 : ((bt a0 x3_1) == 244) = true := beq_iff_eq.mpr c20
                  have c20b1 : ((bt a0 x3_1) != 244) = false := bne_eq_false_iff_eq.mpr c20
                  clear c20
                  have H' := Aside0.mk H
                  clear H
                  go_wp2
                  go_meet
                  case rel => exact ⟨_, (3), (144), (143), (by first | rfl | (simp; done) | (simp [*]; done)), (by first | rfl | (simp; done) | (simp [*]; done)), (by first | rfl | (simp; done) | (simp [*]; done)), H', ⟨by have := HK1.out; have := HJ6.out; have := HJ9.out; have := HJ15.out; first | omega | exact Nat.le_refl _⟩, by repeat (first | exact Drawn0.refl _ | apply Drawn0.step)⟩
                 ·
                  rw [if_neg c20] at H
                  have c20b0 : ((bt a0 x3_1) == 244) = false := beq_eq_false_iff_ne.mpr c20
                  have c20b1 : ((bt a0 x3_1) != 244) = true := bne_iff_ne.mpr c20
                  have H' := Aside0.mk H
                  clear H
                  go_wp2
                  go_meet
                  case rel => exact ⟨_, (3), (144), (191), (by first | rfl | (simp; done) | (simp [*]; done)), (by first | rfl | (simp; done) | (simp [*]; done)), (by first | rfl | (simp; done) | (simp [*]; done)), H', ⟨by have := HK1.out; have := HJ6.out; have := HJ9.out; have := HJ15.out; first | omega | exact Nat.le_refl _⟩, by repeat (first | exact Drawn0.refl _ | apply Drawn0.step)⟩
                ·
                 rw [if_neg c19] at H
                 have c19b0 : ((bt a0 x3_1) == 240) = false := beq_eq_false_iff_ne.mpr c19
                 have c19b1 : ((bt a0 x3_1) != 240) = true := bne_iff_ne.mpr c19
                 by_cases c21 : (bt a0 x3_1) = 244
                 ·
                  rw [if_pos c21] at H
                  have c21b0 : ((bt a0 x3_1) == 244) = true := beq_iff_eq.mpr c21
                  have c21b1 : ((bt a0 x3_1) != 244) = false := bne_eq_false_iff_eq.mpr c21
                  clear c21
                  have H' := Aside0.mk H
                  clear H
                  go_wp2
                  go_meet
                  case rel => exact ⟨_, (3), (128), (143), (by first | rfl | (simp; done) | (simp [*]; done)), (by first | rfl | (simp; done) | (simp [*]; done)), (by first | rfl | (simp; done) | (simp [*]; done)), H', ⟨by have := HK1.out; have := HJ6.out; have := HJ9.out; have := HJ15.out; first | omega | exact Nat.le_refl _⟩, by repeat (first | exact Drawn0.refl _ | apply Drawn0.step)⟩
                 ·
                  rw [if_neg c21] at H
                  have c21b0 : ((bt a0 x3_1) == 244) = false := beq_eq_false_iff_ne.mpr c21
                  have c21b1 : ((bt a0 x3_1) != 244) = true := bne_iff_ne.mpr c21
                  have H' := Aside0.mk H
                  clear H
                  go_wp2
                  go_meet
                  case rel => exact ⟨_, (3), (128), (191), (by first | rfl | (simp; done) | (simp [*]; done)), (by first | rfl | (simp; done) | (simp [*]; done)), (by first | rfl | (simp; done) | (simp [*]; done)), H', ⟨by have := HK1.out; have := HJ6.out; have := HJ9.out; have := HJ15.out; first | omega | exact Nat.le_refl _⟩, by repeat (first | exact Drawn0.refl _ | apply Drawn0.step)⟩
               ·
                replace c18 := Bool.eq_false_iff.mpr c18
                subst c18
                have H1 : (some false) = some r := by rw [if_neg (show ¬ (false = true) by decide)] at H; exact H
                clear H
                have H := H1
                clear H1
                obtain rfl := Option.some.inj H
                go_wp2
                go_ret
                exact ⟨by first | rfl | (simp; done) | (simp [*]; done), by repeat (first | exact Drawn0.refl _ | apply Drawn0.step)⟩
     case rest =>
      clear HC5
      try clear c1
      try clear c2
      try clear c2b0
      try clear p2
      try clear c3
      try clear c3b0
      try clear p4
      try clear q4
      try clear hx4
      try clear c5
      try clear c6
      try clear c6b0
      try clear c8
      try clear c8b0
      try clear c9
      try clear c11
      try clear c11b0
      try clear c12
      try clear c13
      try clear c13b0
      try clear c13b1
      try clear c14
      try clear c14b0
      try clear c14b1
      try clear c15
      try clear c15b0
      try clear c15b1
      try clear c17
      try clear c17b0
      try clear c18
      try clear c19
      try clear c19b0
      try clear c19b1
      try clear c20
      try clear c20b0
      try clear c20b1
      try clear c21
      try clear c21b0
      try clear c21b1
      try clear p2
      try clear p4
      try clear q4
      obtain ⟨kq, x5_4, x6_4, x7_4, rfl, rfl, rfl, HA, HJ4, ⟨mc4, rfl⟩⟩ := hcut
      cases kq with
      | zero => exact absurd HA.out (by simp [belfryref02_Utf8.j4])
      | succ kj4 =>
       have H := HA.out
       clear HA
       simp only [belfryref02_Utf8.j4] at H
       by_cases c22 : x5_4 ≥ (wrap64 ((a0.size : Int) - x3_1))
       ·
        rw [if_pos c22] at H
        have c22b0 : decide ((wrap64 ((a0.size : Int) - x3_1)) ≤ x5_4) = true := decide_eq_true c22
        clear c22
        obtain rfl := Option.some.inj H
        go_wp2
        go_ret
        exact ⟨by first | rfl | (simp; done) | (simp [*]; done), by repeat (first | exact Drawn0.refl _ | apply Drawn0.step)⟩
       ·
        rw [if_neg c22] at H
        have c22b0 : decide ((wrap64 ((a0.size : Int) - x3_1)) ≤ x5_4) = false := decide_eq_false c22
        clear c22
        have H' := Aside0.mk H
        clear H
        go_wp2
        go_loopg [6, 7, 8] kj4 (fun kq v6 v7 v8 w' => ∃ (x6_3 : Int) (x7_3 : Int) (x8_3 : Int), v6 = .int .u8 x6_3 ∧ v7 = .int .u8 x7_3 ∧ v8 = .int .i64 x8_3 ∧ Aside0 (belfryref02_Utf8.l1 kq a0 x3_1 x5_4 x6_3 x7_3 x8_3 = some r) ∧ Aside0 (kq ≤ kj4) ∧ Drawn0 w w')
        case atStart => exact ⟨(x6_4), (x7_4), (1), (by first | rfl | (simp; done) | (simp [*]; done)), (by first | rfl | (simp; done) | (simp [*]; done)), (by first | rfl | (simp; done) | (simp [*]; done)), H', ⟨Nat.le_refl _⟩, by repeat (first | exact Drawn0.refl _ | apply Drawn0.step)⟩
        case round =>
         clear H'
         try clear c1
         try clear c2
         try clear c2b0
         try clear p2
         try clear c3
         try clear c3b0
         try clear c4
         try clear p4
         try clear q4
         try clear hx4
         try clear c5
         try clear c6
         try clear c6b0
         try clear p6
         try clear c8
         try clear c8b0
         try clear c9
         try clear c11
         try clear c11b0
         try clear c12
         try clear c13
         try clear c13b0
         try clear c13b1
         try clear c14
         try clear c14b0
         try clear c14b1
         try clear c15
         try clear c15b0
         try clear c15b1
         try clear c17
         try clear c17b0
         try clear c18
         try clear c19
         try clear c19b0
         try clear c19b1
         try clear c20
         try clear c20b0
         try clear c20b1
         try clear c21
         try clear c21b0
         try clear c21b1
         try clear c22
         try clear c22b0
         try clear p2
         try clear p4
         try clear q4
         obtain ⟨x6_3, x7_3, x8_3, rfl, rfl, rfl, HA, HK3, ⟨m3, rfl⟩⟩ := hrel
         cases gk with
         | zero => exact absurd HA.out (by simp [belfryref02_Utf8.l1])
         | succ k3 =>
          have H := HA.out
          clear HA
          simp only [belfryref02_Utf8.l1] at H
          by_cases c23 : x8_3 ≤ x5_4
          ·
           rw [if_pos c23] at H
           have c23b0 : decide (x8_3 ≤ x5_4) = true := decide_eq_true c23
           clear c23
           obtain ⟨ji24, hji24⟩ : ∃ j_ : Int, (wrap64 (x3_1 + x8_3)) = j_ := ⟨_, rfl⟩
           replace H : (if 0 ≤ (ji24) then (if (ji24) < (a0.size : Int) then (if (bt a0 (ji24)) < x6_3 then (some false) else (if (bt a0 (ji24)) > x7_3 then (some false) else (belfryref02_Utf8.l1 k3 a0 x3_1 x5_4 128 191 (wrap64 (x8_3 + 1))))) else (none)) else (none)) = some r := by first | (rw [hji24] at H; exact H) | (simp only [hji24] at H ⊢; exact H)
           have hji24w : (IntKind.i64.wrap (x3_1 + x8_3)) = ji24 := (i64_w _).trans hji24
           by_cases c25 : 0 ≤ (ji24)
           ·
            rw [if_pos c25] at H
            have c25b0 : decide (0 ≤ (ji24)) = true := decide_eq_true c25
            clear c25
            by_cases c26 : (ji24) < (a0.size : Int)
            ·
             rw [if_pos c26] at H
             have c26b0 : decide ((ji24) < (a0.size : Int)) = true := decide_eq_true c26
             clear c26
             by_cases c28 : (bt a0 (ji24)) < x6_3
             ·
              rw [if_pos c28] at H
              have c28b0 : decide ((bt a0 (ji24)) < x6_3) = true := decide_eq_true c28
              clear c28
              obtain rfl := Option.some.inj H
              have p27 : 0 ≤ ((ji24) : Int) := of_decide_eq_true (by first | (with_reducible assumption) | assumption)
              have q27 : (ji24) < (a0.size : Int) := of_decide_eq_true (by first | (with_reducible assumption) | assumption)
              have hx27 := bt_at a0 (ji24)
              replace p27 := eq_true p27
              replace q27 := eq_true q27
              go_wp2
              go_ret
              exact ⟨by first | rfl | (simp; done) | (simp only [← hji24] <;> (first | rfl | simp)) | (simp [*]; done), by repeat (first | exact Drawn0.refl _ | apply Drawn0.step)⟩
             ·
              rw [if_neg c28] at H
              have c28b0 : decide ((bt a0 (ji24)) < x6_3) = false := decide_eq_false c28
              clear c28
              by_cases c30 : (bt a0 (ji24)) > x7_3
              ·
               rw [if_pos c30] at H
               have c30b0 : decide (x7_3 < (bt a0 (ji24))) = true := decide_eq_true c30
               clear c30
               obtain rfl := Option.some.inj H
               have p27 : 0 ≤ ((ji24) : Int) := of_decide_eq_true (by first | (with_reducible assumption) | assumption)
               have q27 : (ji24) < (a0.size : Int) := of_decide_eq_true (by first | (with_reducible assumption) | assumption)
               have hx27 := bt_at a0 (ji24)
               replace p27 := eq_true p27
               replace q27 := eq_true q27
               have p29 : 0 ≤ ((ji24) : Int) := of_decide_eq_true (by first | (with_reducible assumption) | assumption)
               have q29 : (ji24) < (a0.size : Int) := of_decide_eq_true (by first | (with_reducible assumption) | assumption)
               have hx29 := bt_at a0 (ji24)
               replace p29 := eq_true p29
               replace q29 := eq_true q29
               go_wp2
               go_ret
               exact ⟨by first | rfl | (simp; done) | (simp only [← hji24] <;> (first | rfl | simp)) | (simp [*]; done), by repeat (first | exact Drawn0.refl _ | apply Drawn0.step)⟩
              ·
               rw [if_neg c30] at H
               have c30b0 : decide (x7_3 < (bt a0 (ji24))) = false := decide_eq_false c30
               clear c30
               have H' := Aside0.mk H
               clear H
               have p27 : 0 ≤ ((ji24) : Int) := of_decide_eq_true (by first | (with_reducible assumption) | assumption)
               have q27 : (ji24) < (a0.size : Int) := of_decide_eq_true (by first | (with_reducible assumption) | assumption)
               have hx27 := bt_at a0 (ji24)
               replace p27 := eq_true p27
               replace q27 := eq_true q27
               have p29 : 0 ≤ ((ji24) : Int) := of_decide_eq_true (by first | (with_reducible assumption) | assumption)
               have q29 : (ji24) < (a0.size : Int) := of_decide_eq_true (by first | (with_reducible assumption) | assumption)
               have hx29 := bt_at a0 (ji24)
               replace p29 := eq_true p29
               replace q29 := eq_true q29
               go_wp2
               go_roundg k3
               case measure => have := HK1.out; have := HJ4.out; have := HK3.out; omega
               case rel => exact ⟨(128), (191), (wrap64 (x8_3 + 1)), (by first | rfl | (simp; done) | (simp [*]; done)), (by first | rfl | (simp; done) | (simp [*]; done)), (by first | rfl | (simp; done) | (simp [*]; done)), H', ⟨by have := HK1.out; have := HJ4.out; have := HK3.out; omega⟩, by repeat (first | exact Drawn0.refl _ | apply Drawn0.step)⟩
            ·
             rw [if_neg c26] at H
             exact absurd H (by simp)
           ·
            rw [if_neg c25] at H
            exact absurd H (by simp)
          ·
           rw [if_neg c23] at H
           have c23b0 : decide (x8_3 ≤ x5_4) = false := decide_eq_false c23
           clear c23
           have H' := Aside0.mk H
           clear H
           go_wp2
           go_roundg k3
           case measure => have := HK1.out; have := HJ4.out; have := HK3.out; omega
           case rel => exact ⟨(wrap64 ((wrap64 (x3_1 + x5_4)) + 1)), (by first | rfl | (simp; done) | (simp [*]; done)), H', ⟨by have := HK1.out; have := HJ4.out; have := HK3.out; omega⟩, by repeat (first | exact Drawn0.refl _ | apply Drawn0.step)⟩
    ·
     rw [if_neg c3] at H
     exact absurd H (by simp)
   ·
    rw [if_neg c2] at H
    have c2b0 : decide (x3_1 < (a0.size : Int)) = false := decide_eq_false c2
    clear c2
    obtain rfl := Option.some.inj H
    go_wp2
    go_ret
    exact ⟨by first | rfl | (simp; done) | (simp [*]; done), by repeat (first | exact Drawn0.refl _ | apply Drawn0.step)⟩
def belfryref04_text.f (k : Nat) (a0 : ByteArray) : Option (Bool) := if (a0.size : Int) ≤ 256 then ((belfryref02_Utf8.f k a0).bind fun t122 => (some t122)) else (some false)
set_option maxHeartbeats 8000000 in
set_option maxRecDepth 100000 in
theorem belfryref04_text.calls (k : Nat) (a0 : ByteArray) (r : Bool) (w : World) (h : belfryref04_text.f k a0 = some r) :
  Calls Tryz.prog 38 #[.string a0] w fun e w' => e = .returned (.bool r) ∧ Drawn0 w w' := by
 have H : (if (a0.size : Int) ≤ 256 then ((belfryref02_Utf8.f k a0).bind fun t122 => (some t122)) else (some false)) = some r := h
 clear h
 by_cases c2 : (a0.size : Int) ≤ 256
 ·
  rw [if_pos c2] at H
  have c2b0 : decide ((a0.size : Int) ≤ 256) = true := decide_eq_true c2
  have c2b1 : decide (a0.size ≤ 256) = true := decide_eq_true (by omega)
  clear c2
  replace H := Option.bind_eq_some_iff.mp H
  obtain ⟨t122, A30, H⟩ := H
  replace H : (some t122) = some r := H
  have A3 := Aside0.mk A30
  clear A30
  obtain rfl := Option.some.inj H
  go_enter Tryz.func38, Tryz.ntmps38
  go_wp2_with (first | (go_at_call 57; (with_reducible refine (belfryref02_Utf8.calls k a0 t122 _ A3.out).mono ?_); rintro e w' ⟨rfl, ⟨nd, rfl⟩⟩))
  go_ret
  exact ⟨by first | rfl | (simp; done) | (simp [*]; done), by repeat (first | exact Drawn0.refl _ | apply Drawn0.step)⟩
 ·
  rw [if_neg c2] at H
  have c2b0 : decide ((a0.size : Int) ≤ 256) = false := decide_eq_false c2
  have c2b1 : decide (a0.size ≤ 256) = false := decide_eq_false (by omega)
  clear c2
  obtain rfl := Option.some.inj H
  go_enter Tryz.func38, Tryz.ntmps38
  go_wp2
  go_ret
  exact ⟨by first | rfl | (simp; done) | (simp [*]; done), by repeat (first | exact Drawn0.refl _ | apply Drawn0.step)⟩
def belfryref04_Value.f (k : Nat) (a0 : ByteArray) : Option (Bool) := if a0.toList = ([] : List UInt8) then (some false) else ((belfryref04_text.f k a0).bind fun t123 => (some t123))
set_option maxHeartbeats 8000000 in
set_option maxRecDepth 100000 in
theorem belfryref04_Value.calls (k : Nat) (a0 : ByteArray) (r : Bool) (w : World) (h : belfryref04_Value.f k a0 = some r) :
  Calls Tryz.prog 17 #[.string a0] w fun e w' => e = .returned (.bool r) ∧ Drawn0 w w' := by
 have H : (if a0.toList = ([] : List UInt8) then (some false) else ((belfryref04_text.f k a0).bind fun t123 => (some t123))) = some r := h
 clear h
 by_cases c2 : a0.toList = ([] : List UInt8)
 ·
  rw [if_pos c2] at H
  have c2b0 : (a0.toList == ([] : List UInt8)) = true := beq_iff_eq.mpr c2
  have c2b1 : (a0.toList != ([] : List UInt8)) = false := bne_eq_false_iff_eq.mpr c2
  clear c2
  obtain rfl := Option.some.inj H
  go_enter Tryz.func17, Tryz.ntmps17
  go_wp2
  go_ret
  exact ⟨by first | rfl | (simp; done) | (simp [*]; done), by repeat (first | exact Drawn0.refl _ | apply Drawn0.step)⟩
 ·
  rw [if_neg c2] at H
  have c2b0 : (a0.toList == ([] : List UInt8)) = false := beq_eq_false_iff_ne.mpr c2
  have c2b1 : (a0.toList != ([] : List UInt8)) = true := bne_iff_ne.mpr c2
  replace H := Option.bind_eq_some_iff.mp H
  obtain ⟨t123, A30, H⟩ := H
  replace H : (some t123) = some r := H
  have A3 := Aside0.mk A30
  clear A30
  obtain rfl := Option.some.inj H
  go_enter Tryz.func17, Tryz.ntmps17
  go_wp2_with (first | (go_at_call 38; (with_reducible refine (belfryref04_text.calls k a0 t123 _ A3.out).mono ?_); rintro e w' ⟨rfl, ⟨nd, rfl⟩⟩))
  go_ret
  exact ⟨by first | rfl | (simp; done) | (simp [*]; done), by repeat (first | exact Drawn0.refl _ | apply Drawn0.step)⟩
end Go.Proofs.YtnfanpjfhdlddaaGreatDoor.Pr
end
section
set_option linter.unusedVariables false
set_option linter.unusedSimpArgs false
namespace Go.Proofs.YtnfanpjfhdlddaaGreatDoor.Pr
open Go.RowKit Go.Proofs.YtnfanpjfhdlddaaGreatDoorW.PrintWords Go.Proofs.YtnfanpjfhdlddaaGreatDoorW.PrintLast Go.Proofs.YtnfanpjfhdlddaaGreatDoorW.PrintMore
theorem wrap_small {n : Int} (h0 : -9223372036854775808 ≤ n) (h1 : n < 9223372036854775808) : wrap64 n = n := by unfold wrap64; omega
def inr (c lo hi : Int) : Bool := decide (lo ≤ c) && decide (c ≤ hi)
def chkF (s : ByteArray) (i : Nat) : Nat → Nat → Int → Int → Bool
  | _, 0, _, _ => true
  | m, d + 1, lo, hi => inr (bt s ((i : Int) + m)) lo hi && chkF s i (m + 1) d 128 191
theorem u_l1 (s : ByteArray) (hs : s.size ≤ 256) (i n K : Nat) (v : Bool) (hin : i + n < s.size) (hn : n ≤ 3) (hnext : ∀ k, K ≤ k → belfryref02_Utf8.l0 k s ((i + n + 1 : Nat) : Int) = some v) :
  ∀ (d m : Nat) (lo hi : Int), m + d = n + 1 → ∀ k, K + d + 1 ≤ k → belfryref02_Utf8.l1 k s (i : Int) (n : Int) lo hi (m : Int) = some (chkF s i m d lo hi && v)
 | _, _, _, _, _, 0, hk => absurd hk (by omega)
 | 0, m, lo, hi, hm, k + 1, hk => by
  rw [belfryref02_Utf8.l1, if_neg (by omega), wrap_small (n := (i : Int) + n) (by omega) (by omega), wrap_small (n := (i : Int) + n + 1) (by omega) (by omega)]
  have := hnext k (by omega)
  rw [show ((i + n + 1 : Nat) : Int) = (i : Int) + (n : Int) + 1 by omega] at this
  rw [this, chkF, Bool.true_and]
 | d + 1, m, lo, hi, hm, k + 1, hk => by
  have ih := u_l1 s hs i n K v hin hn hnext d (m + 1) 128 191 (by omega) k (by omega)
  rw [show (((m + 1 : Nat)) : Int) = (m : Int) + 1 by omega] at ih
  rw [belfryref02_Utf8.l1, if_pos (by omega), wrap_small (by omega) (by omega), if_pos (by omega), if_pos (by omega), wrap_small (n := (m : Int) + 1) (by omega) (by omega), ih, chkF, inr]
  generalize bt s ((i : Int) + m) = c
  by_cases h1 : c < lo
  ·
   rw [if_pos h1, decide_eq_false (show ¬ lo ≤ c by omega)]; simp
  ·
   rw [if_neg h1, decide_eq_true (show lo ≤ c by omega)]
   by_cases h2 : c > hi
   ·
    rw [if_pos h2, decide_eq_false (show ¬ c ≤ hi by omega)]; simp
   ·
    rw [if_neg h2, decide_eq_true (show c ≤ hi by omega)]; simp
theorem u_j4 (s : ByteArray) (hs : s.size ≤ 256) (i n K : Nat) (v : Bool) (hi0 : i < s.size) (hn : n ≤ 3) (hnext : i + n < s.size → ∀ k, K ≤ k → belfryref02_Utf8.l0 k s ((i + n + 1 : Nat) : Int) = some v) (lo hi : Int) :
  ∀ k, K + n + 3 ≤ k → belfryref02_Utf8.j4 k s (i : Int) (n : Int) lo hi = some (decide (i + n < s.size) && (chkF s i 1 n lo hi && v))
 | 0, hk => absurd hk (by omega)
 | k + 1, hk => by
  rw [belfryref02_Utf8.j4, wrap_small (by omega) (by omega)]
  by_cases h : i + n < s.size
  ·
   rw [if_neg (by omega), decide_eq_true h, Bool.true_and]
   exact u_l1 s hs i n K v h hn (hnext h) n 1 lo hi (by omega) k (by omega)
  ·
   rw [if_pos (by omega), decide_eq_false h, Bool.false_and]
theorem bt_drop (s : ByteArray) (i j : Nat) : bt s ((i : Int) + (j : Int)) = ((((s.data.toList.drop i).getD j 0).toNat : Nat) : Int) := by
 unfold bt
 have e : ((i : Int) + (j : Int)).toNat = i + j := by omega
 by_cases h : ((i : Int) + (j : Int)).toNat < s.size
 ·
  rw [dif_pos h]
  have hl : i + j < s.data.toList.length := by rw [Array.length_toList]; rw [e] at h; exact h
  have : (s.data.toList.drop i).getD j 0 = s.data.toList[i + j] := by
   rw [List.getD_eq_getElem?_getD, List.getElem?_drop, List.getElem?_eq_getElem hl]; rfl
  rw [this]
  congr 2
 ·
  rw [dif_neg h]
  have hl : s.data.toList.length ≤ i + j := by rw [Array.length_toList]; rw [e] at h; exact Nat.le_of_not_lt h
  have : (s.data.toList.drop i).getD j 0 = 0 := by
   rw [List.getD_eq_getElem?_getD, List.getElem?_drop, List.getElem?_eq_none hl]; rfl
  rw [this]; rfl
theorem m1 {p : Prop} [Decidable p] {x : Bool} (hx : x = decide (¬ p)) (v : Nat → Bool) (n : Nat) : (x && v n) = match (if p then none else some n : Option Nat) with | none => false | some k => v k := by
 subst hx
 by_cases h : p <;> simp [h]
theorem drop_ne {s : ByteArray} {i : Nat} (h : i < s.size) : s.data.toList.drop i ≠ [] := by
 intro e
 have := List.drop_eq_nil_iff.1 e
 rw [Array.length_toList] at this
 exact absurd h (Nat.not_lt.2 this)
theorem utf8_l0 (s : ByteArray) (hs : s.size ≤ 256) : ∀ (N i : Nat), i ≤ s.size → s.size - i < N → ∃ K, ∀ k, K ≤ k → belfryref02_Utf8.l0 k s (i : Int) = some (Lib.validD (s.data.toList.drop i))
 | 0, _, _, h => absurd h (by omega)
 | N + 1, i, hi, hN => by
  by_cases hlt : i < s.size
  case neg =>
   refine ⟨1, fun k hk => ?_⟩
   obtain ⟨k, rfl⟩ : ∃ j, k = j + 1 := ⟨k - 1, by omega⟩
   have : s.data.toList.drop i = [] := List.drop_eq_nil_iff.2 (by rw [Array.length_toList]; exact Nat.le_of_not_lt hlt)
   rw [belfryref02_Utf8.l0, if_neg (by omega), this]; rfl
  case pos =>
   have next : ∀ n : Nat, ∃ K, i + n < s.size → ∀ k, K ≤ k → belfryref02_Utf8.l0 k s ((i + n + 1 : Nat) : Int) = some (Lib.validD ((s.data.toList.drop i).drop (n + 1))) := fun n => by
    by_cases h : i + n < s.size
    ·
     obtain ⟨K, hK⟩ := utf8_l0 s hs N (i + n + 1) (by omega) (by omega)
     refine ⟨K, fun _ k hk => ?_⟩
     rw [hK k hk, List.drop_drop]
     congr 3
    ·
     exact ⟨0, fun h' => absurd h' h⟩
   have hne := drop_ne hlt
   have hlen : (s.data.toList.drop i).length = s.size - i := by rw [List.length_drop, Array.length_toList]; rfl
   have b0 := bt_drop s i 0
   have b1 := bt_drop s i 1
   have b2 := bt_drop s i 2
   have b3 := bt_drop s i 3
   simp only [Int.natCast_zero, Int.add_zero] at b0
   have lead := fun h => Lib.validD_lead (s.data.toList.drop i) hne h
   rw [hlen] at lead
   obtain ⟨K0, next0⟩ := next 0
   obtain ⟨K1, next1⟩ := next 1
   obtain ⟨K2, next2⟩ := next 2
   obtain ⟨K3, next3⟩ := next 3
   refine ⟨K0 + K1 + K2 + K3 + 20, fun k hk => ?_⟩
   obtain ⟨k, rfl⟩ : ∃ j, k = j + 5 := ⟨k - 5, by omega⟩
   have r0 := fun lo hi k hk => u_j4 s hs i 0 K0 _ hlt (by omega) next0 lo hi k hk
   have r1 := fun lo hi k hk => u_j4 s hs i 1 K1 _ hlt (by omega) next1 lo hi k hk
   have r2 := fun lo hi k hk => u_j4 s hs i 2 K2 _ hlt (by omega) next2 lo hi k hk
   have r3 := fun lo hi k hk => u_j4 s hs i 3 K3 _ hlt (by omega) next3 lo hi k hk
   generalize hl : s.data.toList.drop i = l at *
   have hc := (l.getD 0 0).toNat_lt
   have hc1 := (l.getD 1 0).toNat_lt
   have hc2 := (l.getD 2 0).toNat_lt
   have hc3 := (l.getD 3 0).toNat_lt
   have hv0 : l.getD 0 0 = l.getD 0 0 := rfl
   obtain ⟨c, hcc⟩ : ∃ c, c = (l.getD 0 0).toNat := ⟨_, rfl⟩
   rw [← hcc] at b0 lead hc
   by_cases c0 : c < 128
   ·
    have e : Lib.validD l = Lib.validD (l.drop 1) := by
     cases l with
     | nil => exact absurd rfl hne
     | cons b t => rw [Lib.validD_cons b t (by simpa using (hcc ▸ c0))]; rfl
    have r := r0 128 191 (k + 4) (by omega)
    rw [decide_eq_true (show i + 0 < s.size by omega), chkF, Bool.true_and, Bool.true_and, ← e] at r
    rw [belfryref02_Utf8.l0, if_pos (by omega), if_pos (by omega), b0, if_pos (by omega)]
    exact r
   replace lead := lead (by omega)
   rw [lead]
   have nope : ∀ sz, sz = 1 → Lib.checkN (s.size - i) (l.getD 1 0).toNat (l.getD 2 0).toNat (l.getD 3 0).toNat sz (Lib.accLo (Lib.firstT c / 16)) (Lib.accHi (Lib.firstT c / 16)) = none := fun sz h => by simp [Lib.checkN, h]
   rw [belfryref02_Utf8.l0, if_pos (by omega), if_pos (by omega), b0, if_neg (by omega)]
   by_cases c1 : c < 194
   ·
    rw [nope _ (by simp [Lib.firstT, c0, c1]), if_neg (by omega), belfryref02_Utf8.j1, if_neg (by simp), if_neg (by omega), belfryref02_Utf8.j2, if_neg (by simp), if_neg (by omega), belfryref02_Utf8.j3, if_neg (by simp)]
   rw [if_pos (by omega)]
   by_cases d1 : c < 224
   ·
    have f1 : Lib.firstT c % 8 = 2 := by simp [Lib.firstT, c0, c1, d1]
    have f2 : Lib.accLo (Lib.firstT c / 16) = 128 := by simp [Lib.firstT, c0, c1, d1, Lib.accLo]
    have f3 : Lib.accHi (Lib.firstT c / 16) = 191 := by simp [Lib.firstT, c0, c1, d1, Lib.accHi]
    have r := r1 128 191 (k + 3) (by omega)
    rw [f1, f2, f3]
    rw [belfryref02_Utf8.j1, if_pos (by simp; omega)]
    refine Eq.trans r ?_
    congr 1
    rw [← Bool.and_assoc]
    rw [Lib.checkN, if_pos rfl]
    refine m1 ?_ (fun j => Lib.validD (l.drop j)) _
    simp only [chkF, inr, b1, b2, b3, Nat.reduceAdd]
    rw [Bool.eq_iff_iff]
    simp only [Bool.and_eq_true, decide_eq_true_eq, and_true]
    omega
   by_cases d2 : c = 224
   ·
    have f1 : Lib.firstT c % 8 = 3 := by simp [Lib.firstT, c0, c1, d1, d2]
    have f2 : Lib.accLo (Lib.firstT c / 16) = 160 := by simp [Lib.firstT, c0, c1, d1, d2, Lib.accLo]
    have f3 : Lib.accHi (Lib.firstT c / 16) = 191 := by simp [Lib.firstT, c0, c1, d1, d2, Lib.accHi]
    have r := r2 160 191 (k + 2) (by omega)
    rw [f1, f2, f3]
    rw [belfryref02_Utf8.j1, if_neg (by simp; omega), if_pos (by omega), belfryref02_Utf8.j2, if_pos (by simp; omega)]
    rw [if_pos (by omega), if_neg (by omega)]
    refine Eq.trans r ?_
    congr 1
    rw [← Bool.and_assoc]
    rw [Lib.checkN, if_neg (by decide), if_pos rfl]
    refine m1 ?_ (fun j => Lib.validD (l.drop j)) _
    simp only [chkF, inr, b1, b2, b3, Nat.reduceAdd]
    rw [Bool.eq_iff_iff]
    simp only [Bool.and_eq_true, decide_eq_true_eq, and_true]
    omega
   by_cases d3 : c < 237
   ·
    have f1 : Lib.firstT c % 8 = 3 := by simp [Lib.firstT, c0, c1, d1, d2, d3]
    have f2 : Lib.accLo (Lib.firstT c / 16) = 128 := by simp [Lib.firstT, c0, c1, d1, d2, d3, Lib.accLo]
    have f3 : Lib.accHi (Lib.firstT c / 16) = 191 := by simp [Lib.firstT, c0, c1, d1, d2, d3, Lib.accHi]
    have r := r2 128 191 (k + 2) (by omega)
    rw [f1, f2, f3]
    rw [belfryref02_Utf8.j1, if_neg (by simp; omega), if_pos (by omega), belfryref02_Utf8.j2, if_pos (by simp; omega)]
    rw [if_neg (by omega), if_neg (by omega)]
    refine Eq.trans r ?_
    congr 1
    rw [← Bool.and_assoc]
    rw [Lib.checkN, if_neg (by decide), if_pos rfl]
    refine m1 ?_ (fun j => Lib.validD (l.drop j)) _
    simp only [chkF, inr, b1, b2, b3, Nat.reduceAdd]
    rw [Bool.eq_iff_iff]
    simp only [Bool.and_eq_true, decide_eq_true_eq, and_true]
    omega
   by_cases d4 : c = 237
   ·
    have f1 : Lib.firstT c % 8 = 3 := by simp [Lib.firstT, c0, c1, d1, d2, d3, d4]
    have f2 : Lib.accLo (Lib.firstT c / 16) = 128 := by simp [Lib.firstT, c0, c1, d1, d2, d3, d4, Lib.accLo]
    have f3 : Lib.accHi (Lib.firstT c / 16) = 159 := by simp [Lib.firstT, c0, c1, d1, d2, d3, d4, Lib.accHi]
    have r := r2 128 159 (k + 2) (by omega)
    rw [f1, f2, f3]
    rw [belfryref02_Utf8.j1, if_neg (by simp; omega), if_pos (by omega), belfryref02_Utf8.j2, if_pos (by simp; omega)]
    rw [if_neg (by omega), if_pos (by omega)]
    refine Eq.trans r ?_
    congr 1
    rw [← Bool.and_assoc]
    rw [Lib.checkN, if_neg (by decide), if_pos rfl]
    refine m1 ?_ (fun j => Lib.validD (l.drop j)) _
    simp only [chkF, inr, b1, b2, b3, Nat.reduceAdd]
    rw [Bool.eq_iff_iff]
    simp only [Bool.and_eq_true, decide_eq_true_eq, and_true]
    omega
   by_cases d5 : c < 240
   ·
    have f1 : Lib.firstT c % 8 = 3 := by simp [Lib.firstT, c0, c1, d1, d2, d3, d4, d5]
    have f2 : Lib.accLo (Lib.firstT c / 16) = 128 := by simp [Lib.firstT, c0, c1, d1, d2, d3, d4, d5, Lib.accLo]
    have f3 : Lib.accHi (Lib.firstT c / 16) = 191 := by simp [Lib.firstT, c0, c1, d1, d2, d3, d4, d5, Lib.accHi]
    have r := r2 128 191 (k + 2) (by omega)
    rw [f1, f2, f3]
    rw [belfryref02_Utf8.j1, if_neg (by simp; omega), if_pos (by omega), belfryref02_Utf8.j2, if_pos (by simp; omega)]
    rw [if_neg (by omega), if_neg (by omega)]
    refine Eq.trans r ?_
    congr 1
    rw [← Bool.and_assoc]
    rw [Lib.checkN, if_neg (by decide), if_pos rfl]
    refine m1 ?_ (fun j => Lib.validD (l.drop j)) _
    simp only [chkF, inr, b1, b2, b3, Nat.reduceAdd]
    rw [Bool.eq_iff_iff]
    simp only [Bool.and_eq_true, decide_eq_true_eq, and_true]
    omega
   by_cases d6 : c = 240
   ·
    have f1 : Lib.firstT c % 8 = 4 := by simp [Lib.firstT, c0, c1, d1, d2, d3, d4, d5, d6]
    have f2 : Lib.accLo (Lib.firstT c / 16) = 144 := by simp [Lib.firstT, c0, c1, d1, d2, d3, d4, d5, d6, Lib.accLo]
    have f3 : Lib.accHi (Lib.firstT c / 16) = 191 := by simp [Lib.firstT, c0, c1, d1, d2, d3, d4, d5, d6, Lib.accHi]
    have r := r3 144 191 (k + 1) (by omega)
    rw [f1, f2, f3]
    rw [belfryref02_Utf8.j1, if_neg (by simp; omega), if_pos (by omega), belfryref02_Utf8.j2, if_neg (by simp; omega), if_pos (by omega), belfryref02_Utf8.j3, if_pos (by simp; omega)]
    rw [if_pos (by omega), if_neg (by omega)]
    refine Eq.trans r ?_
    congr 1
    rw [← Bool.and_assoc]
    rw [Lib.checkN, if_neg (by decide), if_neg (by decide), if_pos rfl]
    refine m1 ?_ (fun j => Lib.validD (l.drop j)) _
    simp only [chkF, inr, b1, b2, b3, Nat.reduceAdd]
    rw [Bool.eq_iff_iff]
    simp only [Bool.and_eq_true, decide_eq_true_eq, and_true]
    omega
   by_cases d7 : c < 244
   ·
    have f1 : Lib.firstT c % 8 = 4 := by simp [Lib.firstT, c0, c1, d1, d2, d3, d4, d5, d6, d7]
    have f2 : Lib.accLo (Lib.firstT c / 16) = 128 := by simp [Lib.firstT, c0, c1, d1, d2, d3, d4, d5, d6, d7, Lib.accLo]
    have f3 : Lib.accHi (Lib.firstT c / 16) = 191 := by simp [Lib.firstT, c0, c1, d1, d2, d3, d4, d5, d6, d7, Lib.accHi]
    have r := r3 128 191 (k + 1) (by omega)
    rw [f1, f2, f3]
    rw [belfryref02_Utf8.j1, if_neg (by simp; omega), if_pos (by omega), belfryref02_Utf8.j2, if_neg (by simp; omega), if_pos (by omega), belfryref02_Utf8.j3, if_pos (by simp; omega)]
    rw [if_neg (by omega), if_neg (by omega)]
    refine Eq.trans r ?_
    congr 1
    rw [← Bool.and_assoc]
    rw [Lib.checkN, if_neg (by decide), if_neg (by decide), if_pos rfl]
    refine m1 ?_ (fun j => Lib.validD (l.drop j)) _
    simp only [chkF, inr, b1, b2, b3, Nat.reduceAdd]
    rw [Bool.eq_iff_iff]
    simp only [Bool.and_eq_true, decide_eq_true_eq, and_true]
    omega
   by_cases d8 : c = 244
   ·
    have f1 : Lib.firstT c % 8 = 4 := by simp [Lib.firstT, c0, c1, d1, d2, d3, d4, d5, d6, d7, d8]
    have f2 : Lib.accLo (Lib.firstT c / 16) = 128 := by simp [Lib.firstT, c0, c1, d1, d2, d3, d4, d5, d6, d7, d8, Lib.accLo]
    have f3 : Lib.accHi (Lib.firstT c / 16) = 143 := by simp [Lib.firstT, c0, c1, d1, d2, d3, d4, d5, d6, d7, d8, Lib.accHi]
    have r := r3 128 143 (k + 1) (by omega)
    rw [f1, f2, f3]
    rw [belfryref02_Utf8.j1, if_neg (by simp; omega), if_pos (by omega), belfryref02_Utf8.j2, if_neg (by simp; omega), if_pos (by omega), belfryref02_Utf8.j3, if_pos (by simp; omega)]
    rw [if_neg (by omega), if_pos (by omega)]
    refine Eq.trans r ?_
    congr 1
    rw [← Bool.and_assoc]
    rw [Lib.checkN, if_neg (by decide), if_neg (by decide), if_pos rfl]
    refine m1 ?_ (fun j => Lib.validD (l.drop j)) _
    simp only [chkF, inr, b1, b2, b3, Nat.reduceAdd]
    rw [Bool.eq_iff_iff]
    simp only [Bool.and_eq_true, decide_eq_true_eq, and_true]
    omega
   ·
    rw [nope _ (by simp [Lib.firstT, c0, c1, d1, d2, d3, d4, d5, d6, d7, d8]), belfryref02_Utf8.j1, if_neg (by simp; omega), if_pos (by omega), belfryref02_Utf8.j2, if_neg (by simp; omega), if_pos (by omega), belfryref02_Utf8.j3, if_neg (by simp; omega)]
end Go.Proofs.YtnfanpjfhdlddaaGreatDoor.Pr
end
section
set_option linter.unusedVariables false
set_option linter.unusedSimpArgs false
namespace Go.Proofs.YtnfanpjfhdlddaaGreatDoor.Pr
open Go.RowKit Go.Proofs.YtnfanpjfhdlddaaGreatDoorW.PrintWords Go.Proofs.YtnfanpjfhdlddaaGreatDoorW.PrintLast Go.Proofs.YtnfanpjfhdlddaaGreatDoorW.PrintMore
def slices_Clone_Attr.f (l0 : List S45) : Option (List S45) := if l0.length < 4398046511104 then some l0 else none
set_option maxHeartbeats 1000000 in
theorem slices_Clone_Attr.calls (A0 : Option Addr) (c0 : Nat) (l0 : List S45) (r : List S45) (w : World) (hr0 : Kd.C k45 w A0 l0.length l0) (hc0 : l0.length ≤ c0) (h : slices_Clone_Attr.f l0 = some r) :
  Calls Tryz.prog 31 #[.slice A0 l0.length c0] w fun e w' => ∃ v0_ : Value, e = .returned (v0_) ∧ Kd.R k45 45 w' w.heap.size (fun _ => True) v0_ r ∧ Below w.heap.size w w' := by
 unfold slices_Clone_Attr.f at h
 by_cases hl : l0.length < 4398046511104
 ·
  rw [if_pos hl] at h
  obtain rfl := Option.some.inj h
  clear h
  have q22 : ∀ (w : World) (a : Option Addr) (n c n' c' : Nat), (binOp .eql 22 (.slice a n c) (.slice none n' c')).run Tryz.prog w = .ok (.bool a.isNone) w := fun w a n c n' c' => Lib.run_eql_slice_nil w _ _ a n c n' c' Tryz.underlying22
  have HL := Aside0.mk hl
  clear hl
  cases A0 with
  | none =>
   have h0 : l0.length = 0 := by
    rcases Nat.eq_zero_or_pos l0.length with h0 | h0
    ·
     exact h0
    ·
     obtain ⟨ad, e, _⟩ := hr0.2.2 h0
     cases e
   have hn := List.eq_nil_of_length_eq_zero h0
   subst hn
   clear hr0 h0
   go_enter Tryz.func31, Tryz.ntmps31
   go_wp2
   go_ret
   exact ⟨_, rfl, Kd.R_nil _ _ _ _ _, Below.refl _ _⟩
  | some ad =>
   have HR0 := Aside0.mk hr0
   clear hr0 hc0
   go_enter Tryz.func31, Tryz.ntmps31
   go_wp2_with (first | ((with_reducible refine gate_builtin (b := .append) (xs := #[.tmp 5, .tmp 6]) rfl ?_); at_builtin; refine Kd.R_append_rows k45 (w0 := w) w.heap.size rfl (.tmp 5) (.tmp 6) 22 45 (.agg #[(.string ⟨#[]⟩), (.string ⟨#[]⟩)]) 32 rfl Tryz.underlying22 info45 rfl (by decide) (by omega) (.slice (some ⟨w.heap.size, 0, none⟩) 0 0) ([] : List (S45)) l0 _ _ _ (fun _ => True) (fun _ => False) rfl rfl ?aO ?aR (fun _ _ h => h) (fun _ h => h.elim) ?aF ?aB ?aS ?aL ?_; (case aR => exact Kd.C_alloc HR0.out _); (case aB => exact (Below.refl _ _).alloc (Nat.le_refl _) _); (case aF => exact (fun _ _ => trivial)); (case aO => exact flat45.R' (fun _ _ => trivial) (World.ownsRow_made w #[] 0 (Nat.le_refl _) (Nat.zero_le _) (by simp))); (case aS => simp); (case aL => have := HL.out; (try simp only [List.length_nil, Nat.zero_add]); omega); intro v1 w1 ho hb hg hat))
   go_ret
   exact ⟨_, rfl, by simpa using ho, hb⟩
 ·
  rw [if_neg hl] at h
  cases h
end Go.Proofs.YtnfanpjfhdlddaaGreatDoor.Pr
end
section
set_option linter.unusedVariables false
set_option linter.unusedSimpArgs false
namespace Go.Proofs.YtnfanpjfhdlddaaGreatDoor.Pr
open Go.RowKit Go.Proofs.YtnfanpjfhdlddaaGreatDoorW.PrintWords Go.Proofs.YtnfanpjfhdlddaaGreatDoorW.PrintLast Go.Proofs.YtnfanpjfhdlddaaGreatDoorW.PrintMore
open Go.Sort (flatK HoldsK putRowK ahead grow)
theorem sw_heap_ne {α : Type} [Inhabited α] (enc : α → List Value) (k : Nat) (w : World) (g n : Nat) (d : Array α) (os : Array Obj) (i : Nat) (hi : i < w.heap.size) (hne : i ≠ g) : (sortWorldK enc k w g 0 n d os).heap[i]? = w.heap[i]? := by
 unfold sortWorldK Sort.grow Sort.putRowK Sort.putRow Sort.mapBlock Sort.ahead
 simp only
 rw [Array.getElem?_append_left (by simpa using hi), Array.getElem?_modify, if_neg (Ne.symm hne)]
theorem sw_heap_eq {α : Type} [Inhabited α] (enc : α → List Value) (k : Nat) (w : World) (g n : Nat) (d : Array α) (os : Array Obj) {cur : Array Value} {e : TypeId} (hg : w.heap[g]? = some (.cells cur e (0, 0))) :
  (sortWorldK enc k w g 0 n d os).heap[g]? = some (.cells (Sort.putCells id 0 (flatK enc k d) cur) e (0, 0)) := by
 have hlt : g < w.heap.size := (Array.getElem?_eq_some_iff.1 hg).1
 unfold sortWorldK Sort.grow Sort.putRowK Sort.putRow Sort.mapBlock Sort.ahead
 simp only
 rw [Array.getElem?_append_left (by simpa using hlt), Array.getElem?_modify, if_pos rfl, hg]
 rfl
theorem sw_size {α : Type} [Inhabited α] (enc : α → List Value) (k : Nat) (w : World) (g n : Nat) (d : Array α) (os : Array Obj) : w.heap.size ≤ (sortWorldK enc k w g 0 n d os).heap.size := by
 unfold sortWorldK Sort.grow Sort.putRowK Sort.putRow Sort.mapBlock Sort.ahead
 simp
theorem sw_kept {α : Type} [Inhabited α] (enc : α → List Value) (k : Nat) (w : World) (g n : Nat) (d : Array α) (os : Array Obj) : Kept w (sortWorldK enc k w g 0 n d os) (fun k_ => k_ = g) :=
 ⟨sw_size enc k w g n d os, fun i hi hne => sw_heap_ne enc k w g n d os i hi hne⟩
theorem sw_below {α : Type} [Inhabited α] (enc : α → List Value) (k : Nat) (w0 w : World) (g n : Nat) (d : Array α) (os : Array Obj) (hB : Below w0.heap.size w0 w) (hg : w0.heap.size ≤ g) : Below w0.heap.size w0 (sortWorldK enc k w g 0 n d os) :=
 hB.trans ⟨rfl, rfl, rfl, sw_size enc k w g n d os, fun i hi => sw_heap_ne enc k w g n d os i (Nat.lt_of_lt_of_le hi hB.size) (by omega)⟩
theorem putCells_take (F cur : Array Value) (hs : F.size ≤ cur.size) : (Sort.putCells id 0 F cur).toList.take F.size = F.toList := by
 apply List.ext_getElem?
 intro i
 rw [List.getElem?_take]
 by_cases hi : i < F.size
 ·
  rw [if_pos hi]
  have hc : i < cur.size := by omega
  simp only [Sort.putCells, Array.getElem?_toList, Array.getElem?_mapIdx, Array.getElem?_eq_getElem hc, Option.map_some, Nat.zero_le, Nat.zero_add, hi, and_self, if_true, Nat.sub_zero, id]
  rw [getElem!_pos F i hi, Array.getElem?_eq_getElem hi]
 ·
  rw [if_neg hi, List.getElem?_eq_none (by simp; omega)]
section
variable {α : Type} [Inhabited α] {d : Kd α} {enc : α → List Value}
theorem Flat.holds (F : Flat d enc) {e : Nat} {w : World} {base : Nat} {ok : Nat → Prop} {v : Value} {xs : List α} (h : d.R e w base ok v xs) (hp : 0 < xs.length) :
  ∃ g cap, v = .slice (some ⟨g, 0, none⟩) xs.length cap ∧ base ≤ g ∧ g < w.heap.size ∧ ok g ∧ HoldsK enc d.sz w g 0 xs.toArray := by
 obtain ⟨hok, ho⟩ := F.R h
 rcases ho.2 with ⟨_, h0⟩ | ⟨g, cap, cur, rfl, hb, hg, hn, hc, hs, ht⟩
 ·
  omega
 ·
  refine ⟨g, cap, rfl, hb, (Array.getElem?_eq_some_iff.1 hg).1, hok g rfl, fun j hj => ?_⟩
  have hj' : j < xs.length * d.sz := by simpa using hj
  have hcur : j < cur.size := by
   rw [hs]
   exact Nat.lt_of_lt_of_le hj' (Nat.mul_le_mul_right _ hn)
  have hF : (flatK enc d.sz xs.toArray)[j]! = cur[j] := by
   rw [getElem!_pos _ j hj, ← Array.getElem_toList]
   have e1 : (flatK enc d.sz xs.toArray).toList[j]? = some cur[j] := by
    rw [flatK_eq enc d.sz F.len, ← ht, List.getElem?_take, if_pos hj']
    simp [hcur]
   rw [List.getElem?_eq_getElem (by simpa using hj)] at e1
   exact Option.some.inj e1
  rw [hF, Nat.zero_add]
  refine ⟨?_, ?_⟩
  ·
   simp [World.cell?, hg, hcur]
  ·
   simp [World.frozen?, hg]
theorem Flat.sorted (F : Flat d enc) {e : Nat} {w : World} {base : Nat} {ok : Nat → Prop} {g cap n : Nat} {xs : List α} (h : d.R e w base ok (.slice (some ⟨g, 0, none⟩) xs.length cap) xs) (d' : Array α) (hs : d'.size = xs.length) (os : Array Obj) :
  d.R e (sortWorldK enc d.sz w g 0 n d' os) base ok (.slice (some ⟨g, 0, none⟩) xs.length cap) d'.toList := by
 obtain ⟨hok, ho⟩ := F.R h
 rcases ho.2 with ⟨hx, h0⟩ | ⟨g', cap', cur, hv, hb, hg, hn, hc, hcs, ht⟩
 ·
  cases hx
 ·
  injection hv with h1 h2 h3
  injection h1 with h1
  injection h1 with h1
  subst h1; subst h3
  have hl : d'.toList.length = xs.length := by simpa using hs
  have hm : xs.length * d.sz ≤ cap * d.sz := Nat.mul_le_mul_right _ hn
  refine F.R' hok ?_
  rw [hl]
  refine ⟨by rw [flat_len d.sz F.len, hl], .inr ⟨g, cap, _, rfl, hb, sw_heap_eq enc d.sz w g n d' os hg, hn, hc, by simp [Sort.putCells, hcs], ?_⟩⟩
  have hfs : (flatK enc d.sz d').size = xs.length * d.sz := by simp [hs]
  rw [← hfs, putCells_take _ _ (by rw [hfs, hcs]; exact hm)]
  have := flatK_eq enc d.sz F.len d'.toList
  simpa using this
end
theorem cmp_refl : ∀ a : List UInt8, Lib.compareBytes a a = 0
 | [] => rfl
 | a :: x => by simp [Lib.compareBytes, cmp_refl x]
theorem cmp_flip : ∀ a b : List UInt8, Lib.compareBytes b a = - Lib.compareBytes a b
 | [], [] => rfl
 | [], _ :: _ => rfl
 | _ :: _, [] => rfl
 | a :: x, b :: y => by
  unfold Lib.compareBytes
  by_cases h1 : a < b
  ·
   have h2 : ¬ b < a := by
    have : a.toNat < b.toNat := h1
    intro h; have : b.toNat < a.toNat := h; omega
   simp [h1, h2]
  ·
   by_cases h2 : b < a
   ·
    simp [h1, h2]
   ·
    simp only [h1, h2, if_false]
    exact cmp_flip x y
theorem cmp_range : ∀ a b : List UInt8, Lib.compareBytes a b = -1 ∨ Lib.compareBytes a b = 0 ∨ Lib.compareBytes a b = 1
 | [], [] => .inr (.inl rfl)
 | [], _ :: _ => .inl rfl
 | _ :: _, [] => .inr (.inr rfl)
 | a :: x, b :: y => by
  unfold Lib.compareBytes
  by_cases h1 : a < b
  ·
   simp [h1]
  ·
   by_cases h2 : b < a
   ·
    simp [h1, h2]
   ·
    simp only [h1, h2, if_false]
    exact cmp_range x y
theorem cmp_lt : ∀ a b : List UInt8, decide (Lib.compareBytes a b < 0) = Op.bytesLess a b
 | [], [] => rfl
 | [], _ :: _ => rfl
 | _ :: _, [] => rfl
 | a :: x, b :: y => by
  unfold Lib.compareBytes Op.bytesLess
  by_cases h1 : a < b
  ·
   simp [h1]
  ·
   by_cases h2 : b < a
   ·
    have : ¬ a = b := by rintro rfl; exact h1 h2
    simp [h1, h2, this]
   ·
    have : a = b := UInt8.toNat_inj.1 (by
     have h1' : ¬ a.toNat < b.toNat := h1
     have h2' : ¬ b.toNat < a.toNat := h2
     omega)
    subst this
    simp only [h1, if_false]
    rw [cmp_lt x y]
    simp
theorem less_trans : ∀ a b c : List UInt8, Op.bytesLess a b = true → Op.bytesLess b c = true → Op.bytesLess a c = true
 | _, [], _, h, _ => by cases ‹List UInt8› <;> simp [Op.bytesLess] at h
 | _, _ :: _, [], _, h => by simp [Op.bytesLess] at h
 | [], _ :: _, _ :: _, _, _ => rfl
 | a :: x, b :: y, c :: z, h1, h2 => by
  simp only [Op.bytesLess, Bool.or_eq_true, decide_eq_true_eq, Bool.and_eq_true, beq_iff_eq] at *
  rcases h1 with h1 | ⟨rfl, h1⟩
  ·
   rcases h2 with h2 | ⟨rfl, h2⟩
   ·
    left
    have h1' : a.toNat < b.toNat := h1
    have h2' : b.toNat < c.toNat := h2
    show a.toNat < c.toNat
    omega
   ·
    exact .inl h1
  ·
   rcases h2 with h2 | ⟨rfl, h2⟩
   ·
    exact .inl h2
   ·
    exact .inr ⟨rfl, less_trans x y z h1 h2⟩
theorem less_ntrans (a b c : List UInt8) (h1 : Op.bytesLess a b = false) (h2 : Op.bytesLess b c = false) : Op.bytesLess a c = false := by
 have e1 := bytesLess_total a b
 have e2 := bytesLess_total b c
 rw [h1] at e1
 rw [h2] at e2
 rcases Bool.eq_false_or_eq_true (Op.bytesLess a c) with h | h
 ·
  exfalso
  by_cases hab : a = b
  ·
   subst hab; rw [h] at h2; cases h2
  ·
   by_cases hbc : b = c
   ·
    subst hbc; rw [h] at h1; cases h1
   ·
    have hba : Op.bytesLess b a = true := by rw [← e1]; simp [hab]
    have hcb : Op.bytesLess c b = true := by rw [← e2]; simp [hbc]
    have := less_trans c b a hcb hba
    have := less_trans a c a h this
    rw [bytesLess_irrefl] at this
    cases this
 ·
  exact h
end Go.Proofs.YtnfanpjfhdlddaaGreatDoor.Pr
end
section
namespace Go.Proofs
open Go.Shelf
def Tryz.laySort_ren : Go.Shelf.Ren := ⟨fun | 6 => 32 | 15 => 54 | 14 => 53 | 28 => 75 | 29 => 76 | 20 => 67 | 21 => 68 | 22 => 69 | 23 => 70 | 24 => 71 | 25 => 72 | 26 => 73 | 27 => 74 | 46 => 94 | 47 => 95 | 48 => 96 | 49 => 97 | 50 => 98 | 57 => 116 | n => n, fun | 22 => 22 | 24 => 45 | 25 => 58 | 3 => 3 | 39 => 74 | 0 => 0 | 53 => 93 | 55 => 95 | 4 => 4 | 46 => 86 | 45 => 85 | 50 => 90 | 5 => 5 | 9 => 9 | 66 => 122 | 70 => 126 | 76 => 151 | 77 => 152 | n => n, fun | n => n⟩
theorem Tryz.laySort : Go.Proofs.SlLaysF0.n6 Tryz.prog Tryz.laySort_ren := {
 mixed := by kernel_rfl
 f6 := ⟨Tryz.f32.name, by decide, Tryz.func32.trans (congrArg some (by kernel_rfl))⟩
 f14 := ⟨Tryz.f53.name, by decide, Tryz.func53.trans (congrArg some (by kernel_rfl))⟩
 f15 := Tryz.func54.trans (congrArg some (by kernel_rfl))
 f20 := ⟨Tryz.f67.name, by decide, Tryz.func67.trans (congrArg some (by kernel_rfl))⟩
 f21 := ⟨Tryz.f68.name, by decide, Tryz.func68.trans (congrArg some (by kernel_rfl))⟩
 f22 := ⟨Tryz.f69.name, by decide, Tryz.func69.trans (congrArg some (by kernel_rfl))⟩
 f23 := ⟨Tryz.f70.name, by decide, Tryz.func70.trans (congrArg some (by kernel_rfl))⟩
 f24 := ⟨Tryz.f71.name, by decide, Tryz.func71.trans (congrArg some (by kernel_rfl))⟩
 f25 := ⟨Tryz.f72.name, by decide, Tryz.func72.trans (congrArg some (by kernel_rfl))⟩
 f26 := ⟨Tryz.f73.name, by decide, Tryz.func73.trans (congrArg some (by kernel_rfl))⟩
 f27 := ⟨Tryz.f74.name, by decide, Tryz.func74.trans (congrArg some (by kernel_rfl))⟩
 f28 := Tryz.func75.trans (congrArg some (by kernel_rfl))
 f29 := Tryz.func76.trans (congrArg some (by kernel_rfl))
 f46 := ⟨Tryz.f94.name, by decide, Tryz.func94.trans (congrArg some (by kernel_rfl))⟩
 f47 := Tryz.func95.trans (congrArg some (by kernel_rfl))
 f48 := Tryz.func96.trans (congrArg some (by kernel_rfl))
 f49 := ⟨Tryz.f97.name, by decide, Tryz.func97.trans (congrArg some (by kernel_rfl))⟩
 f50 := ⟨Tryz.f98.name, by decide, Tryz.func98.trans (congrArg some (by kernel_rfl))⟩
 f57 := ⟨Tryz.f116.name, by decide, Tryz.func116.trans (congrArg some (by kernel_rfl))⟩
 t0 := Tryz.underlying0
 a0 := Tryz.isAgg0
 z0 := Tryz.sizeOf0
 v0 := Tryz.zeroValue0
 t3 := Tryz.underlying3
 a3 := Tryz.isAgg3
 z3 := Tryz.sizeOf3
 v3 := Tryz.zeroValue3
 t4 := Tryz.underlying4
 a4 := Tryz.isAgg4
 z4 := Tryz.sizeOf4
 v4 := Tryz.zeroValue4
 t5 := Tryz.underlying5
 a5 := Tryz.isAgg5
 z5 := Tryz.sizeOf5
 v5 := Tryz.zeroValue5
 t9 := Tryz.underlying9
 a9 := Tryz.isAgg9
 z9 := Tryz.sizeOf9
 v9 := Tryz.zeroValue9
 t22 := Tryz.underlying22
 a22 := Tryz.isAgg22
 z22 := Tryz.sizeOf22
 v22 := Tryz.zeroValue22
 t25 := Tryz.underlying58
 a25 := Tryz.isAgg58
 z25 := Tryz.sizeOf58
 v25 := Tryz.zeroValue58
 t39 := Tryz.underlying74
 a39 := Tryz.isAgg74
 z39 := Tryz.sizeOf74
 v39 := Tryz.zeroValue74
 t45 := Tryz.underlying85
 a45 := Tryz.isAgg85
 z45 := Tryz.sizeOf85
 v45 := Tryz.zeroValue85
 t46 := Tryz.underlying86
 a46 := Tryz.isAgg86
 z46 := Tryz.sizeOf86
 v46 := Tryz.zeroValue86
 t50 := Tryz.underlying90
 a50 := Tryz.isAgg90
 z50 := Tryz.sizeOf90
 v50 := Tryz.zeroValue90
 t53 := Tryz.underlying93
 a53 := Tryz.isAgg93
 z53 := Tryz.sizeOf93
 v53 := Tryz.zeroValue93
 t55 := Tryz.underlying95
 a55 := Tryz.isAgg95
 z55 := Tryz.sizeOf95
 v55 := Tryz.zeroValue95
 t66 := Tryz.underlying122
 a66 := Tryz.isAgg122
 z66 := Tryz.sizeOf122
 v66 := Tryz.zeroValue122
 t70 := Tryz.underlying126
 a70 := Tryz.isAgg126
 z70 := Tryz.sizeOf126
 v70 := Tryz.zeroValue126
 t76 := Tryz.underlying151
 a76 := Tryz.isAgg151
 z76 := Tryz.sizeOf151
 v76 := Tryz.zeroValue151
 t77 := Tryz.underlying152
 a77 := Tryz.isAgg152
 z77 := Tryz.sizeOf152
 v77 := Tryz.zeroValue152 }
end Go.Proofs
end
section
set_option linter.unusedVariables false
set_option linter.unusedSimpArgs false
namespace Go.Proofs.YtnfanpjfhdlddaaGreatDoor.Pr
open Go.RowKit Go.Proofs.YtnfanpjfhdlddaaGreatDoorW.PrintWords Go.Proofs.YtnfanpjfhdlddaaGreatDoorW.PrintLast Go.Proofs.YtnfanpjfhdlddaaGreatDoorW.PrintMore
open Go.Sort (flatK HoldsK putRowK ahead grow)
def cmpKey (x y : S45) : Int := Lib.compareBytes x.f0.data.toList y.f0.data.toList
theorem cmpKey_lt (x y : S45) : ltOf cmpKey x y = Op.bytesLess x.f0.data.toList y.f0.data.toList := cmp_lt _ _
theorem swoKey : Sort.SWO (ltOf cmpKey) where
 irrefl x := by rw [cmpKey_lt]; exact bytesLess_irrefl _
 trans x y z h1 h2 := by rw [cmpKey_lt] at *; exact less_trans _ _ _ h1 h2
 ntrans x y z h1 h2 := by rw [cmpKey_lt] at *; exact less_ntrans _ _ _ h1 h2
set_option maxHeartbeats 1000000 in
theorem closure33 (x y : S45) (W : World) : Calls Tryz.prog 33 #[.agg #[.string x.f0, .string x.f1], .agg #[.string y.f0, .string y.f1]] W fun e w' => e = .returned (.int .i64 (cmpKey x y)) ∧ ∃ q os', w' = Sort.grow (W.drewN q) os' := by
 have hcon := fun W' => Tryz.strings_Compare x.f0 y.f0 W'
 unfold cmpKey
 generalize Lib.compareBytes x.f0.data.toList y.f0.data.toList = r at hcon ⊢
 have hu45 := Tryz.underlying45
 go_enter Tryz.func33, Tryz.ntmps33
 go_wp2_with (go_at_call 34; refine (hcon _).mono ?_; rintro e w' ⟨rfl, rfl⟩)
 go_ret
 exact ⟨rfl, 0, _, by rw [Sort.alloc_eq_grow, Sort.alloc_eq_grow, Sort.grow_grow]; rfl⟩
theorem cmpLays33 (blk off size : Nat) (w : World) : CmpLays Tryz.prog 33 #[] enc45 2 cmpKey blk off size w := fun _ _ _ _ x y => closure33 x y _
def sorted45 (l : List S45) : List S45 := (Sort.pdq (ltOf cmpKey) l.toArray 0 l.toArray.size (Lib.bitLen l.toArray.size) true true).toList
def slices_SortFunc_Attr.f (l0 : List S45) : Option (List S45) := if l0.length < 4611686018427387904 then some (sorted45 l0) else none
theorem sorted45_perm (l : List S45) : (sorted45 l).Perm l ∧ (sorted45 l).length = l.length ∧ Sort.SortedIn (ltOf cmpKey) 0 l.length (sorted45 l).toArray := by
 have h := Sort.pdq_sorts (ltOf cmpKey) swoKey l.toArray 0 l.toArray.size (Lib.bitLen l.toArray.size) true true (Nat.zero_le _) (Nat.le_refl _) (Or.inl rfl)
 unfold sorted45
 generalize Sort.pdq (ltOf cmpKey) l.toArray 0 l.toArray.size (Lib.bitLen l.toArray.size) true true = X at h
 obtain ⟨⟨h1, _, h3⟩, h4⟩ := h
 have e1 : X.extract 0 l.toArray.size = X := by rw [← h1]; simp
 have e2 : l.toArray.extract 0 l.toArray.size = l.toArray := by simp
 rw [e1, e2] at h3
 exact ⟨by simpa using h3, by simpa using h1, by simpa using h4⟩
theorem sorted45_nil : sorted45 [] = [] := by
 have := (sorted45_perm []).2.1
 exact List.eq_nil_of_length_eq_zero this
set_option maxHeartbeats 1000000 in
theorem slices_SortFunc_Attr.calls (P0_ : Nat → Prop) (u9000_ : Value) (l0 : List S45) (r : List S45) (w0 w : World) (hB : Below w0.heap.size w0 w) (ho0 : Kd.R k45 45 w w0.heap.size P0_ u9000_ l0) (h : slices_SortFunc_Attr.f l0 = some r) :
  Calls Tryz.prog 32 #[u9000_, .func (.func 33) #[] #[]] w fun e w' => e = .returned (.tuple #[]) ∧ Kd.R k45 45 w' w0.heap.size (fun k_ => (P0_ k_ ∨ w.heap.size ≤ k_)) u9000_ r ∧ Below w0.heap.size w0 w' ∧ Kept w w' (fun k_ => P0_ k_) := by
 unfold slices_SortFunc_Attr.f at h
 by_cases hl : l0.length < 4611686018427387904
 ·
  rw [if_pos hl] at h
  obtain rfl := Option.some.inj h
  rcases Nat.eq_zero_or_pos l0.length with h0 | h0
  ·
   have hn := List.eq_nil_of_length_eq_zero h0
   subst hn
   obtain ⟨A, c, rfl⟩ := Kd.R_slice ho0
   have hcon := AnyF.slices_SortFunc_none Tryz.laySort A c (.func (.func 33) #[] #[]) w
   change Calls Tryz.prog 32 _ _ _ at hcon
   refine hcon.mono fun e w' ⟨he, hw⟩ => ?_
   subst hw
   exact ⟨he, by rw [sorted45_nil]; exact Kd.R_mono ho0 (fun k hk => .inl hk), hB, Kept.refl _ _⟩
  ·
   obtain ⟨g, cap, rfl, hbase, hlt, hok, hH⟩ := flat45.holds ho0 h0
   have eg : ∀ args w, (callFunc 33 args).run Tryz.prog w = .ok (.enter 33 args) w := enters_of Tryz.func33 (by kernel_rfl) rfl
   have hcon := AnyQ.slices_SortFunc_eq Tryz.laySort 2 Tryz.isAgg45 Tryz.sizeOf45 enc45 (fun _ => rfl) (fun x => flat45.one x) cmpKey swoKey 33 #[] g 0 cap l0.toArray w eg (cmpLays33 g 0 _ w) hH hlt (by simpa using hl)
   change Calls Tryz.prog 32 _ _ _ at hcon
   have hsz : l0.toArray.size = l0.length := by simp
   refine Calls.mono (by rw [hsz] at hcon; exact hcon) ?_
   rintro e w' ⟨he, n, os, rfl⟩
   refine ⟨he, ?_, sw_below _ _ w0 w g n _ os hB hbase, (sw_kept _ _ w g n _ os).mono (fun k hk => by subst hk; exact hok)⟩
   have hR := flat45.sorted (n := n) ho0 (Sort.pdq (ltOf cmpKey) l0.toArray 0 l0.toArray.size (Lib.bitLen l0.toArray.size) true true) (by have := (sorted45_perm l0).2.1; unfold sorted45 at this; simpa using this) os
   rw [hsz] at hR
   unfold sorted45
   rw [hsz]
   exact Kd.R_mono hR (fun k hk => .inl hk)
 ·
  rw [if_neg hl] at h
  cases h
end Go.Proofs.YtnfanpjfhdlddaaGreatDoor.Pr
end
