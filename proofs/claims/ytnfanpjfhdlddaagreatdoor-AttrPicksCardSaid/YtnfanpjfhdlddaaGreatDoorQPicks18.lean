import Derived.Test.YtnfanpjfhdlddaaGreatDoorQPicks15
import Derived.Test.YtnfanpjfhdlddaaGreatDoorQPicks5
import Derived.Test.YtnfanpjfhdlddaaGreatDoorQPicks16
import Derived.Test.YtnfanpjfhdlddaaGreatDoorQPicks17
import Derived.Deep.RegionHeld3
section
set_option linter.unusedVariables false
set_option linter.unusedSimpArgs false
namespace Go.Proofs.YtnfanpjfhdlddaaGreatDoor.Pr
open Go.RowKit Go.Shelf Go.Proofs.YtnfanpjfhdlddaaGreatDoorW.PrintWords Go.Proofs.YtnfanpjfhdlddaaGreatDoorW.PrintLast Go.Proofs.YtnfanpjfhdlddaaGreatDoorW.PrintMore
theorem results4_box (tmps : Array Value) (W : World) (b : Nat) (hp : tmps.getD 10 undef = .pointer (some ⟨b, 0, none⟩)) (hc : W.cell? ⟨b, 0, none⟩ = some (.bool true)) :
  (results Tryz.f4 tmps).run Tryz.prog W = .ok (.bool true) W := by
 have hr : Tryz.f4.results = #[.cell 10 4] := Tryz.results4
 have ha := Tryz.isAgg4
 have hp' : tmps[10]?.getD undef = .pointer (some ⟨b, 0, none⟩) := by simpa using hp
 simp only [results, hr]
 simp [Sem.run_bind, hp', asAddr, loadVar, hc, ha, go_sem]
theorem picks_end {w w21 : World} {B D D2 : Nat} (b10 : Boxed w21 B 4 (.bool false)) (hBD : B < D) (hDD : D < D2) (hwB : w.heap.size ≤ B) (h1 : w21.heap[D]? = some (.deferred (some []))) (h2 : w21.heap[D2]? = some (.deferred (some []))) (tmps : Array Value) (hp : tmps.getD 10 undef = .pointer (some ⟨B, 0, none⟩))
  (hB : Below w.heap.size w w21) : bodyPostM Fence.wide 5 Tryz.prog Tryz.f4 (fun e w' => e = .returned (.bool true) ∧ Below w.heap.size w w') .ret { tmps := tmps, defers := [{ target := .collected D2, args := #[] }, { target := .collected D, args := #[] }] } (w21.setCell ⟨B, 0, none⟩ (.bool true)) := by
 have hs := grownBy_setCell' w21 B (.bool true)
 have l1 : D < w21.heap.size := (Array.getElem?_eq_some_iff.1 h1).1
 have l2 : D2 < w21.heap.size := (Array.getElem?_eq_some_iff.1 h2).1
 have e1 := (hs.block D l1 (by simp; omega)).trans h1
 have e2 := (hs.block D2 l2 (by simp; omega)).trans h2
 have e3 : ((w21.setCell ⟨B, 0, none⟩ (.bool true)).putObj D2 (.deferred none)).heap[D]? = some (.deferred (some [])) := (World.putObj_heap_other (by omega)).trans e1
 have hb := hB.setCell (p := ⟨B, 0, none⟩) hwB (.bool true)
 have hb2 := hb.trans (belowK_b (w := w) (Nat.le_refl _) _ D2 _ (.deferred none) (by omega) e2 rfl rfl)
 have hb3 := hb2.trans (belowK_b (w := w) (Nat.le_refl _) _ D _ (.deferred none) (by omega) e3 rfl rfl)
 have hc : ((w21.setCell ⟨B, 0, none⟩ (.bool true)).heap[B]?) = some (.cells #[.bool true] 4) := b10.set (.bool true)
 have hc3 : (((w21.setCell ⟨B, 0, none⟩ (.bool true)).putObj D2 (.deferred none)).putObj D (.deferred none)).cell? ⟨B, 0, none⟩ = some (.bool true) := by
  have : (((w21.setCell ⟨B, 0, none⟩ (.bool true)).putObj D2 (.deferred none)).putObj D (.deferred none)).heap[B]? = some (.cells #[.bool true] 4) :=
   (World.putObj_heap_other (by omega)).trans ((World.putObj_heap_other (by omega)).trans hc)
  simp [World.cell?, this]
 refine ⟨by simp, .inl ⟨_, _, rfl, run_takeDeferred e2, by simp, .inl ⟨_, _, rfl, run_takeDeferred e3, ?_⟩⟩⟩
 exact ⟨_, results4_box tmps _ B hp hc3, rfl, hb3⟩
end Go.Proofs.YtnfanpjfhdlddaaGreatDoor.Pr
end
section
namespace Go.Proofs.YtnfanpjfhdlddaaGreatDoor.Pr
open Go.RowKit Go.Proofs.YtnfanpjfhdlddaaGreatDoorW.PrintWords Go.Proofs.YtnfanpjfhdlddaaGreatDoorW.PrintLast Go.Proofs.YtnfanpjfhdlddaaGreatDoorW.PrintMore
attribute [local go_sem] max2_int min2_int max_two min_two max_three min_three max_four min_four strGtr strLeq strGeq
set_option linter.unusedVariables false
set_option linter.unusedSimpArgs false
mutual
def belfryref04_Cmp.l0 : Nat → List (S45) → List (S45) → Int → Option (Int)
  | 0, _, _, _ => none
  | k + 1, x0, x1, x5 => if x5 < (x0.length : Int) then (belfryref04_Cmp.j1 k x0 x1 x5 (decide (x5 < (x1.length : Int)))) else (belfryref04_Cmp.j1 k x0 x1 x5 false)
def belfryref04_Cmp.j1 : Nat → List (S45) → List (S45) → Int → Bool → Option (Int)
  | 0, _, _, _, _ => none
  | k + 1, x0, x1, x5, x15 => if x15 = true then (if 0 ≤ x5 then (if x5 < (x0.length : Int) then (if x5 < (x1.length : Int) then (if (Op.bytesLess (((rd_T45 x0 x5).f0).toList) (((rd_T45 x1 x5).f0).toList)) = true then (some (-1)) else (if (Op.bytesLess (((rd_T45 x1 x5).f0).toList) (((rd_T45 x0 x5).f0).toList)) = true then (some 1) else (if (Op.bytesLess (((rd_T45 x0 x5).f1).toList) (((rd_T45 x1 x5).f1).toList)) = true then (some (-1)) else (if (Op.bytesLess (((rd_T45 x1 x5).f1).toList) (((rd_T45 x0 x5).f1).toList)) = true then (some 1) else (belfryref04_Cmp.l0 k x0 x1 (wrap64 (x5 + 1))))))) else (none)) else (none)) else (none)) else (if (x0.length : Int) < (x1.length : Int) then (some (-1)) else (if (x0.length : Int) > (x1.length : Int) then (some 1) else (some 0)))
end
def belfryref04_Cmp.f (k : Nat) (l0 : List (S45)) (l1 : List (S45)) : Option (Int) := belfryref04_Cmp.l0 k l0 l1 0
set_option maxHeartbeats 8000000 in
set_option maxRecDepth 100000 in
theorem belfryref04_Cmp.calls (k : Nat) (A0 : Option Addr) (c0 : Nat) (l0 : List (S45)) (A1 : Option Addr) (c1 : Nat) (l1 : List (S45)) (r : Int) (w : World) (hr0 : Kd.C k45 w A0 l0.length l0) (hc0 : l0.length ≤ c0) (hr1 : Kd.C k45 w A1 l1.length l1) (hc1 : l1.length ≤ c1) (h : belfryref04_Cmp.f k l0 l1 = some r) :
  Calls Tryz.prog 26 #[.slice A0 l0.length c0, .slice A1 l1.length c1] w fun e w' => e = .returned (.int .i64 r) ∧ Drawn0 w w' := by
 have HR0 := Aside0.mk hr0
 have HC0 := Aside0.mk hc0
 clear hr0 hc0
 have HR1 := Aside0.mk hr1
 have HC1 := Aside0.mk hc1
 clear hr1 hc1
 have H : (belfryref04_Cmp.l0 k l0 l1 0) = some r := h
 clear h
 have H' := Aside0.mk H
 clear H
 go_enter Tryz.func26, Tryz.ntmps26
 go_wp2
 repeat (go_quiet (fail); try go_wp2)
 go_loopg [5] k (fun kq v5 w' => ∃ (x5_1 : Int), v5 = .int .i64 x5_1 ∧ Aside0 (belfryref04_Cmp.l0 kq l0 l1 x5_1 = some r) ∧ Aside0 (kq ≤ k) ∧ Drawn0 w w')
 case atStart => exact ⟨(0), (by first | rfl | (simp; done) | (simp [*]; done)), H', ⟨Nat.le_refl _⟩, by repeat (first | exact Drawn0.refl _ | apply Drawn0.step)⟩
 case round =>
  clear H'
  try clear c1
  try clear c2
  try clear p2
  obtain ⟨x5_1, rfl, HA, HK1, ⟨m1, rfl⟩⟩ := hrel
  cases gk with
  | zero => exact absurd HA.out (by simp [belfryref04_Cmp.l0])
  | succ k1 =>
   have H := HA.out
   clear HA
   simp only [belfryref04_Cmp.l0] at H
   have HC3 := Aside0.mk H
   clear H
   go_upto_region 2 with (fail)
   repeat (go_quiet (fail); go_upto_region 2 with (fail))
   go_cut [15] (fun v15 wc => ∃ (kq : Nat) (x15_2 : Bool), v15 = .bool x15_2 ∧ Aside0 (belfryref04_Cmp.j1 kq l0 l1 x5_1 x15_2 = some r) ∧ Aside0 (kq ≤ k1) ∧ Drawn0 w wc)
   case first =>
    have H := HC3.out
    clear HC3
    by_cases c4 : x5_1 < (l0.length : Int)
    ·
     rw [if_pos c4] at H
     have c4b0 : decide (x5_1 < (l0.length : Int)) = true := decide_eq_true c4
     clear c4
     (first | rw [c4b0] | (simp only [i64_w, i32_w]; rw [c4b0]) | skip)
     have H' := Aside0.mk H
     clear H
     go_wp2
     repeat (go_quiet (fail); try go_wp2)
     go_meet
     case rel => exact ⟨_, (decide (x5_1 < (l1.length : Int))), (by first | rfl | (simp; done) | (simp [*]; done)), H', ⟨by have := HK1.out; first | omega | exact Nat.le_refl _⟩, by repeat (first | exact Drawn0.refl _ | apply Drawn0.step)⟩
    ·
     rw [if_neg c4] at H
     have c4b0 : decide (x5_1 < (l0.length : Int)) = false := decide_eq_false c4
     clear c4
     (first | rw [c4b0] | (simp only [i64_w, i32_w]; rw [c4b0]) | skip)
     have H' := Aside0.mk H
     clear H
     go_wp2
     repeat (go_quiet (fail); try go_wp2)
     go_meet
     case rel => exact ⟨_, (false), (by first | rfl | (simp; done) | (simp [*]; done)), H', ⟨by have := HK1.out; first | omega | exact Nat.le_refl _⟩, by repeat (first | exact Drawn0.refl _ | apply Drawn0.step)⟩
   case rest =>
    clear HC3
    try clear c1
    try clear c2
    try clear p2
    try clear c4
    try clear c4b0
    try clear p2
    obtain ⟨kq, x15_2, rfl, HA, HJ2, ⟨mc2, rfl⟩⟩ := hcut
    cases kq with
    | zero => exact absurd HA.out (by simp [belfryref04_Cmp.j1])
    | succ kj2 =>
     have H := HA.out
     clear HA
     simp only [belfryref04_Cmp.j1] at H
     by_cases c5 : x15_2 = true
     ·
      subst c5
      have H1 : (if 0 ≤ x5_1 then (if x5_1 < (l0.length : Int) then (if x5_1 < (l1.length : Int) then (if (Op.bytesLess (((rd_T45 l0 x5_1).f0).toList) (((rd_T45 l1 x5_1).f0).toList)) = true then (some (-1)) else (if (Op.bytesLess (((rd_T45 l1 x5_1).f0).toList) (((rd_T45 l0 x5_1).f0).toList)) = true then (some 1) else (if (Op.bytesLess (((rd_T45 l0 x5_1).f1).toList) (((rd_T45 l1 x5_1).f1).toList)) = true then (some (-1)) else (if (Op.bytesLess (((rd_T45 l1 x5_1).f1).toList) (((rd_T45 l0 x5_1).f1).toList)) = true then (some 1) else (belfryref04_Cmp.l0 kj2 l0 l1 (wrap64 (x5_1 + 1))))))) else (none)) else (none)) else (none)) = some r := by rw [if_pos rfl] at H; exact H
      clear H
      have H := H1
      clear H1
      by_cases c6 : 0 ≤ x5_1
      ·
       rw [if_pos c6] at H
       have c6b0 : decide (0 ≤ x5_1) = true := decide_eq_true c6
       clear c6
       by_cases c7 : x5_1 < (l0.length : Int)
       ·
        rw [if_pos c7] at H
        have c7b0 : decide (x5_1 < (l0.length : Int)) = true := decide_eq_true c7
        clear c7
        by_cases c8 : x5_1 < (l1.length : Int)
        ·
         rw [if_pos c8] at H
         have c8b0 : decide (x5_1 < (l1.length : Int)) = true := decide_eq_true c8
         clear c8
         by_cases c9 : (Op.bytesLess (((rd_T45 l0 x5_1).f0).toList) (((rd_T45 l1 x5_1).f0).toList)) = true
         ·
          rw [if_pos c9] at H
          have c9b0 : (Op.bytesLess (((rd_T45 l0 x5_1).f0).toList) (((rd_T45 l1 x5_1).f0).toList)) = true := c9
          clear c9
          obtain rfl := Option.some.inj H
          have p370 : 0 ≤ (x5_1 : Int) := of_decide_eq_true (by first | (with_reducible assumption) | assumption)
          have q370 : x5_1 < (l0.length : Int) := of_decide_eq_true (by first | (with_reducible assumption) | assumption)
          obtain ⟨ad370, e370, hx370_0, hx370_1⟩ := at_T45 HR0.out x5_1 p370 q370
          cases e370
          replace p370 := eq_true p370
          replace q370 := eq_true q370
          have p371 : 0 ≤ (x5_1 : Int) := of_decide_eq_true (by first | (with_reducible assumption) | assumption)
          have q371 : x5_1 < (l1.length : Int) := of_decide_eq_true (by first | (with_reducible assumption) | assumption)
          obtain ⟨ad371, e371, hx371_0, hx371_1⟩ := at_T45 HR1.out x5_1 p371 q371
          cases e371
          replace p371 := eq_true p371
          replace q371 := eq_true q371
          go_wp2
          repeat (go_quiet (fail); try go_wp2)
          go_ret
          exact ⟨by first | rfl | (simp; done) | (simp [*]; done), by repeat (first | exact Drawn0.refl _ | apply Drawn0.step)⟩
         ·
          rw [if_neg c9] at H
          have c9b0 : (Op.bytesLess (((rd_T45 l0 x5_1).f0).toList) (((rd_T45 l1 x5_1).f0).toList)) = false := by simpa using c9
          clear c9
          by_cases c10 : (Op.bytesLess (((rd_T45 l1 x5_1).f0).toList) (((rd_T45 l0 x5_1).f0).toList)) = true
          ·
           rw [if_pos c10] at H
           have c10b0 : (Op.bytesLess (((rd_T45 l1 x5_1).f0).toList) (((rd_T45 l0 x5_1).f0).toList)) = true := c10
           clear c10
           obtain rfl := Option.some.inj H
           have p370 : 0 ≤ (x5_1 : Int) := of_decide_eq_true (by first | (with_reducible assumption) | assumption)
           have q370 : x5_1 < (l0.length : Int) := of_decide_eq_true (by first | (with_reducible assumption) | assumption)
           obtain ⟨ad370, e370, hx370_0, hx370_1⟩ := at_T45 HR0.out x5_1 p370 q370
           cases e370
           replace p370 := eq_true p370
           replace q370 := eq_true q370
           have p371 : 0 ≤ (x5_1 : Int) := of_decide_eq_true (by first | (with_reducible assumption) | assumption)
           have q371 : x5_1 < (l1.length : Int) := of_decide_eq_true (by first | (with_reducible assumption) | assumption)
           obtain ⟨ad371, e371, hx371_0, hx371_1⟩ := at_T45 HR1.out x5_1 p371 q371
           cases e371
           replace p371 := eq_true p371
           replace q371 := eq_true q371
           have p372 : 0 ≤ (x5_1 : Int) := of_decide_eq_true (by first | (with_reducible assumption) | assumption)
           have q372 : x5_1 < (l0.length : Int) := of_decide_eq_true (by first | (with_reducible assumption) | assumption)
           obtain ⟨ad372, e372, hx372_0, hx372_1⟩ := at_T45 HR0.out x5_1 p372 q372
           obtain rfl : ad370 = ad372 := (by injection e372)
           replace p372 := eq_true p372
           replace q372 := eq_true q372
           have p373 : 0 ≤ (x5_1 : Int) := of_decide_eq_true (by first | (with_reducible assumption) | assumption)
           have q373 : x5_1 < (l1.length : Int) := of_decide_eq_true (by first | (with_reducible assumption) | assumption)
           obtain ⟨ad373, e373, hx373_0, hx373_1⟩ := at_T45 HR1.out x5_1 p373 q373
           obtain rfl : ad371 = ad373 := (by injection e373)
           replace p373 := eq_true p373
           replace q373 := eq_true q373
           go_wp2
           repeat (go_quiet (fail); try go_wp2)
           go_ret
           exact ⟨by first | rfl | (simp; done) | (simp [*]; done), by repeat (first | exact Drawn0.refl _ | apply Drawn0.step)⟩
          ·
           rw [if_neg c10] at H
           have c10b0 : (Op.bytesLess (((rd_T45 l1 x5_1).f0).toList) (((rd_T45 l0 x5_1).f0).toList)) = false := by simpa using c10
           clear c10
           by_cases c11 : (Op.bytesLess (((rd_T45 l0 x5_1).f1).toList) (((rd_T45 l1 x5_1).f1).toList)) = true
           ·
            rw [if_pos c11] at H
            have c11b0 : (Op.bytesLess (((rd_T45 l0 x5_1).f1).toList) (((rd_T45 l1 x5_1).f1).toList)) = true := c11
            clear c11
            obtain rfl := Option.some.inj H
            have p370 : 0 ≤ (x5_1 : Int) := of_decide_eq_true (by first | (with_reducible assumption) | assumption)
            have q370 : x5_1 < (l0.length : Int) := of_decide_eq_true (by first | (with_reducible assumption) | assumption)
            obtain ⟨ad370, e370, hx370_0, hx370_1⟩ := at_T45 HR0.out x5_1 p370 q370
            cases e370
            replace p370 := eq_true p370
            replace q370 := eq_true q370
            have p371 : 0 ≤ (x5_1 : Int) := of_decide_eq_true (by first | (with_reducible assumption) | assumption)
            have q371 : x5_1 < (l1.length : Int) := of_decide_eq_true (by first | (with_reducible assumption) | assumption)
            obtain ⟨ad371, e371, hx371_0, hx371_1⟩ := at_T45 HR1.out x5_1 p371 q371
            cases e371
            replace p371 := eq_true p371
            replace q371 := eq_true q371
            have p372 : 0 ≤ (x5_1 : Int) := of_decide_eq_true (by first | (with_reducible assumption) | assumption)
            have q372 : x5_1 < (l0.length : Int) := of_decide_eq_true (by first | (with_reducible assumption) | assumption)
            obtain ⟨ad372, e372, hx372_0, hx372_1⟩ := at_T45 HR0.out x5_1 p372 q372
            obtain rfl : ad370 = ad372 := (by injection e372)
            replace p372 := eq_true p372
            replace q372 := eq_true q372
            have p373 : 0 ≤ (x5_1 : Int) := of_decide_eq_true (by first | (with_reducible assumption) | assumption)
            have q373 : x5_1 < (l1.length : Int) := of_decide_eq_true (by first | (with_reducible assumption) | assumption)
            obtain ⟨ad373, e373, hx373_0, hx373_1⟩ := at_T45 HR1.out x5_1 p373 q373
            obtain rfl : ad371 = ad373 := (by injection e373)
            replace p373 := eq_true p373
            replace q373 := eq_true q373
            have p374 : 0 ≤ (x5_1 : Int) := of_decide_eq_true (by first | (with_reducible assumption) | assumption)
            have q374 : x5_1 < (l0.length : Int) := of_decide_eq_true (by first | (with_reducible assumption) | assumption)
            obtain ⟨ad374, e374, hx374_0, hx374_1⟩ := at_T45 HR0.out x5_1 p374 q374
            obtain rfl : ad370 = ad374 := (by injection e374)
            replace p374 := eq_true p374
            replace q374 := eq_true q374
            have p375 : 0 ≤ (x5_1 : Int) := of_decide_eq_true (by first | (with_reducible assumption) | assumption)
            have q375 : x5_1 < (l1.length : Int) := of_decide_eq_true (by first | (with_reducible assumption) | assumption)
            obtain ⟨ad375, e375, hx375_0, hx375_1⟩ := at_T45 HR1.out x5_1 p375 q375
            obtain rfl : ad371 = ad375 := (by injection e375)
            replace p375 := eq_true p375
            replace q375 := eq_true q375
            go_wp2
            repeat (go_quiet (fail); try go_wp2)
            go_ret
            exact ⟨by first | rfl | (simp; done) | (simp [*]; done), by repeat (first | exact Drawn0.refl _ | apply Drawn0.step)⟩
           ·
            rw [if_neg c11] at H
            have c11b0 : (Op.bytesLess (((rd_T45 l0 x5_1).f1).toList) (((rd_T45 l1 x5_1).f1).toList)) = false := by simpa using c11
            clear c11
            by_cases c12 : (Op.bytesLess (((rd_T45 l1 x5_1).f1).toList) (((rd_T45 l0 x5_1).f1).toList)) = true
            ·
             rw [if_pos c12] at H
             have c12b0 : (Op.bytesLess (((rd_T45 l1 x5_1).f1).toList) (((rd_T45 l0 x5_1).f1).toList)) = true := c12
             clear c12
             obtain rfl := Option.some.inj H
             have p370 : 0 ≤ (x5_1 : Int) := of_decide_eq_true (by first | (with_reducible assumption) | assumption)
             have q370 : x5_1 < (l0.length : Int) := of_decide_eq_true (by first | (with_reducible assumption) | assumption)
             obtain ⟨ad370, e370, hx370_0, hx370_1⟩ := at_T45 HR0.out x5_1 p370 q370
             cases e370
             replace p370 := eq_true p370
             replace q370 := eq_true q370
             have p371 : 0 ≤ (x5_1 : Int) := of_decide_eq_true (by first | (with_reducible assumption) | assumption)
             have q371 : x5_1 < (l1.length : Int) := of_decide_eq_true (by first | (with_reducible assumption) | assumption)
             obtain ⟨ad371, e371, hx371_0, hx371_1⟩ := at_T45 HR1.out x5_1 p371 q371
             cases e371
             replace p371 := eq_true p371
             replace q371 := eq_true q371
             have p372 : 0 ≤ (x5_1 : Int) := of_decide_eq_true (by first | (with_reducible assumption) | assumption)
             have q372 : x5_1 < (l0.length : Int) := of_decide_eq_true (by first | (with_reducible assumption) | assumption)
             obtain ⟨ad372, e372, hx372_0, hx372_1⟩ := at_T45 HR0.out x5_1 p372 q372
             obtain rfl : ad370 = ad372 := (by injection e372)
             replace p372 := eq_true p372
             replace q372 := eq_true q372
             have p373 : 0 ≤ (x5_1 : Int) := of_decide_eq_true (by first | (with_reducible assumption) | assumption)
             have q373 : x5_1 < (l1.length : Int) := of_decide_eq_true (by first | (with_reducible assumption) | assumption)
             obtain ⟨ad373, e373, hx373_0, hx373_1⟩ := at_T45 HR1.out x5_1 p373 q373
             obtain rfl : ad371 = ad373 := (by injection e373)
             replace p373 := eq_true p373
             replace q373 := eq_true q373
             have p374 : 0 ≤ (x5_1 : Int) := of_decide_eq_true (by first | (with_reducible assumption) | assumption)
             have q374 : x5_1 < (l0.length : Int) := of_decide_eq_true (by first | (with_reducible assumption) | assumption)
             obtain ⟨ad374, e374, hx374_0, hx374_1⟩ := at_T45 HR0.out x5_1 p374 q374
             obtain rfl : ad370 = ad374 := (by injection e374)
             replace p374 := eq_true p374
             replace q374 := eq_true q374
             have p375 : 0 ≤ (x5_1 : Int) := of_decide_eq_true (by first | (with_reducible assumption) | assumption)
             have q375 : x5_1 < (l1.length : Int) := of_decide_eq_true (by first | (with_reducible assumption) | assumption)
             obtain ⟨ad375, e375, hx375_0, hx375_1⟩ := at_T45 HR1.out x5_1 p375 q375
             obtain rfl : ad371 = ad375 := (by injection e375)
             replace p375 := eq_true p375
             replace q375 := eq_true q375
             have p376 : 0 ≤ (x5_1 : Int) := of_decide_eq_true (by first | (with_reducible assumption) | assumption)
             have q376 : x5_1 < (l0.length : Int) := of_decide_eq_true (by first | (with_reducible assumption) | assumption)
             obtain ⟨ad376, e376, hx376_0, hx376_1⟩ := at_T45 HR0.out x5_1 p376 q376
             obtain rfl : ad370 = ad376 := (by injection e376)
             replace p376 := eq_true p376
             replace q376 := eq_true q376
             have p377 : 0 ≤ (x5_1 : Int) := of_decide_eq_true (by first | (with_reducible assumption) | assumption)
             have q377 : x5_1 < (l1.length : Int) := of_decide_eq_true (by first | (with_reducible assumption) | assumption)
             obtain ⟨ad377, e377, hx377_0, hx377_1⟩ := at_T45 HR1.out x5_1 p377 q377
             obtain rfl : ad371 = ad377 := (by injection e377)
             replace p377 := eq_true p377
             replace q377 := eq_true q377
             go_wp2
             repeat (go_quiet (fail); try go_wp2)
             go_ret
             exact ⟨by first | rfl | (simp; done) | (simp [*]; done), by repeat (first | exact Drawn0.refl _ | apply Drawn0.step)⟩
            ·
             rw [if_neg c12] at H
             have c12b0 : (Op.bytesLess (((rd_T45 l1 x5_1).f1).toList) (((rd_T45 l0 x5_1).f1).toList)) = false := by simpa using c12
             clear c12
             have H' := Aside0.mk H
             clear H
             have p370 : 0 ≤ (x5_1 : Int) := of_decide_eq_true (by first | (with_reducible assumption) | assumption)
             have q370 : x5_1 < (l0.length : Int) := of_decide_eq_true (by first | (with_reducible assumption) | assumption)
             obtain ⟨ad370, e370, hx370_0, hx370_1⟩ := at_T45 HR0.out x5_1 p370 q370
             cases e370
             replace p370 := eq_true p370
             replace q370 := eq_true q370
             have p371 : 0 ≤ (x5_1 : Int) := of_decide_eq_true (by first | (with_reducible assumption) | assumption)
             have q371 : x5_1 < (l1.length : Int) := of_decide_eq_true (by first | (with_reducible assumption) | assumption)
             obtain ⟨ad371, e371, hx371_0, hx371_1⟩ := at_T45 HR1.out x5_1 p371 q371
             cases e371
             replace p371 := eq_true p371
             replace q371 := eq_true q371
             have p372 : 0 ≤ (x5_1 : Int) := of_decide_eq_true (by first | (with_reducible assumption) | assumption)
             have q372 : x5_1 < (l0.length : Int) := of_decide_eq_true (by first | (with_reducible assumption) | assumption)
             obtain ⟨ad372, e372, hx372_0, hx372_1⟩ := at_T45 HR0.out x5_1 p372 q372
             obtain rfl : ad370 = ad372 := (by injection e372)
             replace p372 := eq_true p372
             replace q372 := eq_true q372
             have p373 : 0 ≤ (x5_1 : Int) := of_decide_eq_true (by first | (with_reducible assumption) | assumption)
             have q373 : x5_1 < (l1.length : Int) := of_decide_eq_true (by first | (with_reducible assumption) | assumption)
             obtain ⟨ad373, e373, hx373_0, hx373_1⟩ := at_T45 HR1.out x5_1 p373 q373
             obtain rfl : ad371 = ad373 := (by injection e373)
             replace p373 := eq_true p373
             replace q373 := eq_true q373
             have p374 : 0 ≤ (x5_1 : Int) := of_decide_eq_true (by first | (with_reducible assumption) | assumption)
             have q374 : x5_1 < (l0.length : Int) := of_decide_eq_true (by first | (with_reducible assumption) | assumption)
             obtain ⟨ad374, e374, hx374_0, hx374_1⟩ := at_T45 HR0.out x5_1 p374 q374
             obtain rfl : ad370 = ad374 := (by injection e374)
             replace p374 := eq_true p374
             replace q374 := eq_true q374
             have p375 : 0 ≤ (x5_1 : Int) := of_decide_eq_true (by first | (with_reducible assumption) | assumption)
             have q375 : x5_1 < (l1.length : Int) := of_decide_eq_true (by first | (with_reducible assumption) | assumption)
             obtain ⟨ad375, e375, hx375_0, hx375_1⟩ := at_T45 HR1.out x5_1 p375 q375
             obtain rfl : ad371 = ad375 := (by injection e375)
             replace p375 := eq_true p375
             replace q375 := eq_true q375
             have p376 : 0 ≤ (x5_1 : Int) := of_decide_eq_true (by first | (with_reducible assumption) | assumption)
             have q376 : x5_1 < (l0.length : Int) := of_decide_eq_true (by first | (with_reducible assumption) | assumption)
             obtain ⟨ad376, e376, hx376_0, hx376_1⟩ := at_T45 HR0.out x5_1 p376 q376
             obtain rfl : ad370 = ad376 := (by injection e376)
             replace p376 := eq_true p376
             replace q376 := eq_true q376
             have p377 : 0 ≤ (x5_1 : Int) := of_decide_eq_true (by first | (with_reducible assumption) | assumption)
             have q377 : x5_1 < (l1.length : Int) := of_decide_eq_true (by first | (with_reducible assumption) | assumption)
             obtain ⟨ad377, e377, hx377_0, hx377_1⟩ := at_T45 HR1.out x5_1 p377 q377
             obtain rfl : ad371 = ad377 := (by injection e377)
             replace p377 := eq_true p377
             replace q377 := eq_true q377
             go_wp2
             repeat (go_quiet (fail); try go_wp2)
             go_roundg kj2
             case measure => have := HK1.out; have := HJ2.out; omega
             case rel => exact ⟨(wrap64 (x5_1 + 1)), (by first | rfl | (simp; done) | (simp [*]; done)), H', ⟨by have := HK1.out; have := HJ2.out; omega⟩, by repeat (first | exact Drawn0.refl _ | apply Drawn0.step)⟩
        ·
         rw [if_neg c8] at H
         exact absurd H (by simp)
       ·
        rw [if_neg c7] at H
        exact absurd H (by simp)
      ·
       rw [if_neg c6] at H
       exact absurd H (by simp)
     ·
      replace c5 := Bool.eq_false_iff.mpr c5
      subst c5
      have H1 : (if (l0.length : Int) < (l1.length : Int) then (some (-1)) else (if (l0.length : Int) > (l1.length : Int) then (some 1) else (some 0))) = some r := by rw [if_neg (show ¬ (false = true) by decide)] at H; exact H
      clear H
      have H := H1
      clear H1
      by_cases c13 : (l0.length : Int) < (l1.length : Int)
      ·
       rw [if_pos c13] at H
       have c13b0 : decide ((l0.length : Int) < (l1.length : Int)) = true := decide_eq_true c13
       have c13b1 : decide (l0.length < l1.length) = true := decide_eq_true (Int.ofNat_lt.mp c13)
       clear c13
       obtain rfl := Option.some.inj H
       go_wp2
       repeat (go_quiet (fail); try go_wp2)
       go_ret
       exact ⟨by first | rfl | (simp; done) | (simp [*]; done), by repeat (first | exact Drawn0.refl _ | apply Drawn0.step)⟩
      ·
       rw [if_neg c13] at H
       have c13b0 : decide ((l0.length : Int) < (l1.length : Int)) = false := decide_eq_false c13
       have c13b1 : decide (l0.length < l1.length) = false := decide_eq_false (fun h => c13 (Int.ofNat_lt.mpr h))
       clear c13
       by_cases c14 : (l0.length : Int) > (l1.length : Int)
       ·
        rw [if_pos c14] at H
        have c14b0 : decide ((l1.length : Int) < (l0.length : Int)) = true := decide_eq_true c14
        have c14b1 : decide (l1.length < l0.length) = true := decide_eq_true (Int.ofNat_lt.mp c14)
        clear c14
        obtain rfl := Option.some.inj H
        go_wp2
        repeat (go_quiet (fail); try go_wp2)
        go_ret
        exact ⟨by first | rfl | (simp; done) | (simp [*]; done), by repeat (first | exact Drawn0.refl _ | apply Drawn0.step)⟩
       ·
        rw [if_neg c14] at H
        have c14b0 : decide ((l1.length : Int) < (l0.length : Int)) = false := decide_eq_false c14
        have c14b1 : decide (l1.length < l0.length) = false := decide_eq_false (fun h => c14 (Int.ofNat_lt.mpr h))
        clear c14
        obtain rfl := Option.some.inj H
        go_wp2
        repeat (go_quiet (fail); try go_wp2)
        go_ret
        exact ⟨by first | rfl | (simp; done) | (simp [*]; done), by repeat (first | exact Drawn0.refl _ | apply Drawn0.step)⟩
end Go.Proofs.YtnfanpjfhdlddaaGreatDoor.Pr
end
section
set_option linter.unusedVariables false
set_option linter.unusedSimpArgs false
namespace Go.Proofs.YtnfanpjfhdlddaaGreatDoor.Pr
open Go.RowKit Go.Shelf Go.Proofs.YtnfanpjfhdlddaaGreatDoorW.PrintWords Go.Proofs.YtnfanpjfhdlddaaGreatDoorW.PrintLast Go.Proofs.YtnfanpjfhdlddaaGreatDoorW.PrintMore
attribute [local go_sem] Oper.semAt_some strGtr strLeq strGeq
structure PicksAt (k : Nat) (l m : List S45) (key value : ByteArray) (ks : List ByteArray) (g : ByteArray × Bool) (s : List S45 × Int) (wo : List S45) (c : Int) (x y : List S45) : Prop where
  lent : belfrylaw04_lent.f l = some l
  get : attr_Get.f k l key = some (g.1, g.2)
  get' : belfryref04_Get.f k l key = some (g.1, g.2)
  set : attr_Set.f k l key value = some (s.1, s.2)
  set' : belfryref04_Set.f k l key value = some (s.1, s.2)
  wi : attr_Without.f k l ks = some wo
  wi' : belfryref04_Without.f k l ks = some wo
  same1 : belfryref04_Same.f k s.1 s.1 = some true
  same2 : belfryref04_Same.f k wo wo = some true
  cmp : attr_Cmp.f k l m = some c
  cmp' : belfryref04_Cmp.f k l m = some c
  sp1 : belfrylaw04_spoil.f k s.1 = some x
  sp2 : belfrylaw04_spoil.f k wo = some y
  same3 : belfryref04_Same.f k l l = some true
  known : belfrylaw04_known.f k = some true
theorem below_far {w0 w w1 : World} (h : Below w0.heap.size w0 w) (hb : Below w.heap.size w w1) : Below w0.heap.size w0 w1 := h.trans (hb.mono h.size)
theorem drawn_below {w w1 : World} (h : Drawn0 w w1) : Below w.heap.size w w1 := h.below
def PI (w : World) (u : Value) (pre : List S45) (W : World) : Prop := Boxed W w.heap.size 3 (.int .i64 (pre.length : Int)) ∧ Boxed W (w.heap.size + 1) 22 u ∧ Below w.heap.size w W
theorem pi_next {w W : World} {u : Value} {pre : List S45} {x : S45} (h : PI w u pre W) : PI w u (pre ++ [x]) (W.setCell ⟨w.heap.size, 0, none⟩ (.int .i64 ((pre.length : Int) + 1))) := by
 obtain ⟨h1, h3, h2⟩ := h
 refine ⟨?_, h3.other (by omega) _, h2.setCell (Nat.le_refl _) _⟩
 have := h1.set (.int .i64 ((pre.length : Int) + 1))
 rw [List.length_append]
 exact this
theorem pre_get {l pre : List S45} {x : S45} (h : (pre ++ [x]) <+: l) (hlt : pre.length < l.length) : l[pre.length] = x := by
 obtain ⟨t, rfl⟩ := h
 simp
theorem func_not_nil (w : World) (b : Nat) : (binOp .eql 42 (.func (.func 44) #[] #[.pointer (some ⟨b, 0, none⟩)]) Value.nilFunc).run Tryz.prog w = .ok (.bool false) w := by kernel_rfl
set_option maxHeartbeats 8000000 in
set_option maxRecDepth 1000000 in
theorem belfrylaw04_AttrPicks.calls (k : Nat) (A0 : Option Addr) (c0 : Nat) (l0 : List S45) (A1 : Option Addr) (c1 : Nat) (l1 : List S45) (a2 a3 : ByteArray) (A4 : Option Addr) (c4 : Nat) (l4 : List ByteArray) (g : ByteArray × Bool) (s : List S45 × Int) (wo : List S45) (c : Int) (x y : List S45) (w : World)
  (hr0 : Kd.C k45 w A0 l0.length l0) (hc0 : l0.length ≤ c0) (hr1 : Kd.C k45 w A1 l1.length l1) (hc1 : l1.length ≤ c1) (hr4 : Kd.C Kd.string w A4 l4.length l4) (hc4 : l4.length ≤ c4) (hl : l0.length < 4398046511104) (h : PicksAt k l0 l1 a2 a3 l4 g s wo c x y) (he_ : EnvW w) :
  Calls Tryz.prog 4 #[.slice A0 l0.length c0, .slice A1 l1.length c1, .string a2, .string a3, .slice A4 l4.length c4] w fun e w' => e = .returned (.bool true) ∧ Below w.heap.size w w' := by
 have HR0 := Aside0.mk hr0
 have HR1 := Aside0.mk hr1
 have HR4 := Aside0.mk hr4
 have HE := Aside0.mk he_
 have H := Aside0.mk h
 have HL := Aside0.mk hl
 clear hr0 hr1 hr4 he_ h hl
 refine (callsIn_wide (n := 5)).1 ?_
 refine callsIn_of_wp_marks Tryz.func4 rfl trivial ?_ rfl
 simp only [Tryz.ntmps4, List.size_toArray, List.length_cons, List.length_nil, Nat.reduceAdd, Nat.reduceSub, Array.replicate_succ, Array.replicate_zero, List.push_toArray, List.append_toArray, List.nil_append, List.cons_append]
 refine wpIn_wide.2 ?_
 go_wp2_with fail
 have hB0 : Below w.heap.size w ((w.alloc (.cells #[.slice A0 l0.length c0] 22)).alloc (.cells #[.bool false] 4)) := ((Below.refl _ w).alloc (Nat.le_refl _) _).alloc (by simp) _
 have b5 : Boxed ((w.alloc (.cells #[.slice A0 l0.length c0] 22)).alloc (.cells #[.bool false] 4)) w.heap.size 22 (.slice A0 l0.length c0) := (Boxed.new w 22 _).alloc _
 have b10 : Boxed ((w.alloc (.cells #[.slice A0 l0.length c0] 22)).alloc (.cells #[.bool false] 4)) (w.heap.size + 1) 4 (.bool false) := by
  have := Boxed.new (w.alloc (.cells #[.slice A0 l0.length c0] 22)) 4 (.bool false)
  rw [World.size_alloc] at this
  exact this
 generalize (w.alloc (.cells #[.slice A0 l0.length c0] 22)).alloc (.cells #[.bool false] 4) = W0 at hB0 b5 b10 ⊢
 refine (belfrylaw04_lent.calls A0 c0 l0 l0 W0 (Kd.C_below HR0.out hB0) hc0 H.out.lent).mono ?_
 rintro e w1 ⟨vo, rfl, ho, hb⟩
 obtain ⟨Ao, co, eo⟩ := Kd.R_slice ho
 subst eo
 have HBO := Aside0.mk hB0
 have B5 := Aside0.mk b5
 have B10 := Aside0.mk b10
 have HO := Aside0.mk (Kd.R_reads' ho)
 have HB := Aside0.mk (below_far hB0 hb)
 have HW := Aside0.mk hb
 clear hB0 b5 b10 ho hb
 have c5 := (boxed_below B5.out HW.out).cell
 have HB1 := HB
 have HW1 := HW
 have HV1 := Aside0.mk (Below.refl w1.heap.size w1)
 clear HB HW
 go_wp2_with fail
 refine (attr_Get.calls k Ao co l0 a2 g.1 g.2 _ HO.out.2.2 HO.out.2.1 H.out.get).mono ?_
 rintro e w2 ⟨rfl, hb⟩
 have HB2 := Aside0.mk (below_far HB1.out hb)
 have HW2 := Aside0.mk (below_far HW1.out hb)
 have HV2 := Aside0.mk (below_far HV1.out hb)
 clear hb c5
 have c5 := (boxed_below B5.out HW2.out).cell
 go_wp2_with fail
 refine (belfryref04_Get.calls k A0 c0 l0 a2 g.1 g.2 _ (Kd.C_below HR0.out HB2.out) hc0 H.out.get').mono ?_
 rintro e w3 ⟨rfl, hd⟩
 have hb := drawn_below hd
 have HB3 := Aside0.mk (below_far HB2.out hb)
 have HW3 := Aside0.mk (below_far HW2.out hb)
 have HV3 := Aside0.mk (below_far HV2.out hb)
 clear hb hd c5
 have c5 := (boxed_below B5.out HW3.out).cell
 go_wp2_with fail
 refine (attr_Set.calls k Ao co l0 a2 a3 s.1 s.2 _ (Kd.C_below HO.out.2.2 HV3.out) HO.out.2.1 H.out.set (env_below HE.out HB3.out)).mono ?_
 rintro e w4 ⟨va, rfl, ha, hb⟩
 have HB4 := Aside0.mk (below_far HB3.out hb)
 have HW4 := Aside0.mk (below_far HW3.out hb)
 have HV4 := Aside0.mk (below_far HV3.out hb)
 have HA := Aside0.mk ha
 have HS4 := Aside0.mk hb
 obtain ⟨Aa, ca, ea⟩ := Kd.R_slice ha
 subst ea
 clear hb ha c5
 have c5 := (boxed_below B5.out HW4.out).cell
 go_wp2_with fail
 refine (belfryref04_Set.calls k A0 c0 l0 a2 a3 s.1 s.2 _ (Kd.C_below HR0.out HB4.out) hc0 H.out.set').mono ?_
 rintro e w5 ⟨vb, rfl, hbb, hb⟩
 have HB5 := Aside0.mk (below_far HB4.out hb)
 have HW5 := Aside0.mk (below_far HW4.out hb)
 have HV5 := Aside0.mk (below_far HV4.out hb)
 have HA5 := Aside0.mk (Kd.R_below HA.out hb)
 have HS5 := Aside0.mk (below_far HS4.out hb)
 obtain ⟨Ab, cb, eb⟩ := Kd.R_slice hbb
 subst eb
 have HBB := Aside0.mk (Kd.R_reads' hbb)
 clear hb hbb c5
 have c5 := (boxed_below B5.out HW5.out).cell
 go_wp2_with fail
 refine (attr_Without.calls k Ao co l0 A4 c4 l4 wo _ (Kd.C_below HO.out.2.2 HV5.out) HO.out.2.1 (Kd.C_below HR4.out HB5.out) hc4 H.out.wi).mono ?_
 rintro e w6 ⟨vc, rfl, hcc, hb⟩
 have HB6 := Aside0.mk (below_far HB5.out hb)
 have HW6 := Aside0.mk (below_far HW5.out hb)
 have HV6 := Aside0.mk (below_far HV5.out hb)
 have HA6 := Aside0.mk (Kd.R_below HA5.out hb)
 have HS6 := Aside0.mk (below_far HS5.out hb)
 have HT6 := Aside0.mk hb
 have HBB6 := Aside0.mk (Kd.C_below HBB.out.2.2 hb)
 obtain ⟨Ac, cc, ec⟩ := Kd.R_slice hcc
 subst ec
 have HC := Aside0.mk hcc
 clear hb hcc c5
 have c5 := (boxed_below B5.out HW6.out).cell
 go_wp2_with fail
 go_cut [91] from 56 to 91 (fun v91 wc => v91 = .bool false ∧ Aside0 (Below w6.heap.size w6 wc))
 case first =>
  refine wp_region_noPanic ?_
  refine wp_region_any (by kernel_rfl) ?_
  try (change wpAny _ _ _ _ _ _ _ (World.drew _))
  have HZ := Aside0.mk (show Below w6.heap.size w6 w6.drew from (Below.refl _ _).drew)
  refine wpAny_take (i := 0) (v := ?_) rfl (by kernel_rfl) (by kernel_rfl) (by kernel_rfl) (fun _ _ _ h => h) (Or.inl ⟨by kernel_rfl, ?_⟩) ?_
  case refine_2 => intro w; go_simp; try with_reducible rfl
  refine wpAny_take (i := 1) (v := ?_) rfl (by kernel_rfl) (by kernel_rfl) (by kernel_rfl) (fun _ _ _ h => h) (Or.inl ⟨by kernel_rfl, ?_⟩) ?_
  case refine_2 => intro w; go_simp; try with_reducible rfl
  refine wpAny_take (i := 2) (v := ?_) rfl (by kernel_rfl) (by kernel_rfl) (by kernel_rfl) (fun _ _ _ h => h) (Or.inl ⟨by kernel_rfl, ?_⟩) ?_
  case refine_2 => intro w; go_simp; try with_reducible rfl
  refine wpAny_take (i := 3) (v := ?_) rfl (by kernel_rfl) (by kernel_rfl) (by kernel_rfl) (fun _ _ _ h => h) (Or.inl ⟨by kernel_rfl, ?_⟩) ?_
  case refine_2 => intro w; go_simp; try with_reducible rfl
  refine wpAny_take (i := 4) (v := ?_) rfl (by kernel_rfl) (by kernel_rfl) (by kernel_rfl) (fun _ _ _ h => h) (Or.inl ⟨by kernel_rfl, ?_⟩) ?_
  case refine_2 => intro w; go_simp; try with_reducible rfl
  refine wpAny_take (i := 5) (v := ?_) rfl (by kernel_rfl) (by kernel_rfl) (by kernel_rfl) (fun _ _ _ h => h) (Or.inl ⟨by kernel_rfl, ?_⟩) ?_
  case refine_2 => intro w; go_simp; try with_reducible rfl
  refine wpAny_take (i := 6) (v := ?_) rfl (by kernel_rfl) (by kernel_rfl) (by kernel_rfl) (fun _ _ _ h => h) (Or.inl ⟨by kernel_rfl, ?_⟩) ?_
  case refine_2 => intro w; go_simp; try with_reducible rfl
  refine wpAny_take (i := 7) (v := ?_) rfl (by kernel_rfl) (by kernel_rfl) (by kernel_rfl) (fun _ _ _ h => h) (Or.inl ⟨by kernel_rfl, ?_⟩) ?_
  case refine_2 => intro w; go_simp; try with_reducible rfl
  refine wpAny_take (i := 8) (v := ?_) rfl (by kernel_rfl) (by kernel_rfl) (by kernel_rfl) (fun _ _ _ h => h) (Or.inl ⟨by kernel_rfl, ?_⟩) ?_
  case refine_2 => intro w; go_simp; try with_reducible rfl
  refine wpAny_take (i := 9) (v := ?_) rfl (by kernel_rfl) (by kernel_rfl) (by kernel_rfl) (fun _ _ _ h => h) (Or.inl ⟨by kernel_rfl, ?_⟩) ?_
  case refine_2 => intro w; go_simp; try with_reducible rfl
  refine wpAny_take (i := 10) (v := ?_) rfl (by kernel_rfl) (by kernel_rfl) (by kernel_rfl) (fun _ _ _ h => h) (Or.inl ⟨by kernel_rfl, ?_⟩) ?_
  case refine_2 => intro w; go_simp; try with_reducible rfl
  refine wpAny_ready (rs := [11]) (by kernel_rfl) (by simp) ?_
  refine AllReady.cons rfl (fun K hK => ?_) AllReady.nil
  go_simp
  refine (belfryref04_Same.calls k Aa ca s.1 Ab cb s.1 true _ (Kd.C_below (Kd.R_reads' HA6.out).2.2 HZ.out) (Kd.R_reads' HA6.out).2.1 (Kd.C_below HBB6.out HZ.out) HBB.out.2.1 H.out.same1).mono ?_
  rintro e w7 ⟨rfl, hd⟩
  have hz := below_far HZ.out (drawn_below hd)
  clear hd HZ
  have HZ := Aside0.mk hz
  clear hz
  refine hK _ _ ?_
  clear hK K
  refine wpAny_take (i := 12) (v := ?_) rfl (by kernel_rfl) (by kernel_rfl) (by kernel_rfl) (fun _ _ _ h => h) (Or.inl ⟨by kernel_rfl, ?_⟩) ?_
  case refine_2 => intro w; go_simp; try with_reducible rfl
  refine wpAny_take (i := 13) (v := ?_) rfl (by kernel_rfl) (by kernel_rfl) (by kernel_rfl) (fun _ _ _ h => h) (Or.inl ⟨by kernel_rfl, ?_⟩) ?_
  case refine_2 => intro w; go_simp; try with_reducible rfl
  refine wpAny_take (i := 14) (v := ?_) rfl (by kernel_rfl) (by kernel_rfl) (by kernel_rfl) (fun _ _ _ h => h) (Or.inl ⟨by kernel_rfl, ?_⟩) ?_
  case refine_2 => intro w; go_simp; try with_reducible rfl
  refine wpAny_take (i := 15) (v := ?_) rfl (by kernel_rfl) (by kernel_rfl) (by kernel_rfl) (fun _ _ _ h => h) (Or.inl ⟨by kernel_rfl, ?_⟩) ?_
  case refine_2 => intro w; go_simp; try with_reducible rfl
  refine wpAny_take (i := 16) (v := ?_) rfl (by kernel_rfl) (by kernel_rfl) (by kernel_rfl) (fun _ _ _ h => h) (Or.inl ⟨by kernel_rfl, ?_⟩) ?_
  case refine_2 => intro w; go_simp; try with_reducible rfl
  refine wpAny_take (i := 17) (v := ?_) rfl (by kernel_rfl) (by kernel_rfl) (by kernel_rfl) (fun _ _ _ h => h) (Or.inl ⟨by kernel_rfl, ?_⟩) ?_
  case refine_2 => intro w; go_simp; try with_reducible rfl
  refine wpAny_take (i := 18) (v := ?_) rfl (by kernel_rfl) (by kernel_rfl) (by kernel_rfl) (fun _ _ _ h => h) (Or.inl ⟨by kernel_rfl, ?_⟩) ?_
  case refine_2 => intro w; go_simp; try with_reducible rfl
  refine wpAny_take (i := 19) (v := ?_) rfl (by kernel_rfl) (by kernel_rfl) (by kernel_rfl) (fun _ _ _ h => h) (Or.inl ⟨by kernel_rfl, ?_⟩) ?_
  case refine_2 => intro w; go_simp; try with_reducible rfl
  refine wpAny_take (i := 20) (v := ?_) rfl (by kernel_rfl) (by kernel_rfl) (by kernel_rfl) (fun _ _ _ h => h) (Or.inl ⟨by kernel_rfl, ?_⟩) ?_
  case refine_2 => intro w; go_simp; try with_reducible rfl
  refine wpAny_take (i := 22) (v := ?_) rfl (by kernel_rfl) (by kernel_rfl) (by kernel_rfl) (fun _ _ _ h => h) (Or.inl ⟨by kernel_rfl, ?_⟩) ?_
  case refine_2 => intro w; go_simp; try with_reducible rfl
  refine wpAny_ready (rs := [21]) (by kernel_rfl) (by simp) ?_
  refine AllReady.cons rfl (fun K hK => ?_) AllReady.nil
  have c5 := (boxed_below B5.out (below_far HW6.out HZ.out)).cell
  go_simp
  refine hK _ _ ?_
  clear hK K
  clear c5
  refine wpAny_ready (rs := [23]) (by kernel_rfl) (by simp) ?_
  refine AllReady.cons rfl (fun K hK => ?_) AllReady.nil
  go_simp
  refine (belfryref04_Without.calls k A0 c0 l0 A4 c4 l4 wo _ (Kd.C_below HR0.out (below_far HB6.out HZ.out)) hc0 (Kd.C_below HR4.out (below_far HB6.out HZ.out)) hc4 H.out.wi').mono ?_
  rintro e w8 ⟨vd, rfl, hdd, hb⟩
  obtain ⟨Ad, cd, ed⟩ := Kd.R_slice hdd
  subst ed
  have HD := Aside0.mk (Kd.R_reads' hdd)
  have hz := below_far HZ.out hb
  clear hdd hb HZ
  have HZ := Aside0.mk hz
  clear hz
  refine hK _ _ ?_
  clear hK K
  refine wpAny_ready (rs := [24]) (by kernel_rfl) (by simp) ?_
  refine AllReady.cons rfl (fun K hK => ?_) AllReady.nil
  go_simp
  refine (belfryref04_Same.calls k Ac cc wo Ad cd wo true _ (Kd.C_below (Kd.R_reads' HC.out).2.2 HZ.out) (Kd.R_reads' HC.out).2.1 HD.out.2.2 HD.out.2.1 H.out.same2).mono ?_
  rintro e w9 ⟨rfl, hd⟩
  have hz := below_far HZ.out (drawn_below hd)
  clear hd HZ
  have HZ := Aside0.mk hz
  clear hz
  refine hK _ _ ?_
  clear hK K
  refine wpAny_take (i := 25) (v := ?_) rfl (by kernel_rfl) (by kernel_rfl) (by kernel_rfl) (fun _ _ _ h => h) (Or.inl ⟨by kernel_rfl, ?_⟩) ?_
  case refine_2 => intro w; go_simp; try with_reducible rfl
  refine wpAny_take (i := 26) (v := ?_) rfl (by kernel_rfl) (by kernel_rfl) (by kernel_rfl) (fun _ _ _ h => h) (Or.inl ⟨by kernel_rfl, ?_⟩) ?_
  case refine_2 => intro w; go_simp; try with_reducible rfl
  refine wpAny_take (i := 27) (v := ?_) rfl (by kernel_rfl) (by kernel_rfl) (by kernel_rfl) (fun _ _ _ h => h) (Or.inl ⟨by kernel_rfl, ?_⟩) ?_
  case refine_2 => intro w; go_simp; try with_reducible rfl
  refine wpAny_take (i := 28) (v := ?_) rfl (by kernel_rfl) (by kernel_rfl) (by kernel_rfl) (fun _ _ _ h => h) (Or.inl ⟨by kernel_rfl, ?_⟩) ?_
  case refine_2 => intro w; go_simp; try with_reducible rfl
  refine wpAny_take (i := 29) (v := ?_) rfl (by kernel_rfl) (by kernel_rfl) (by kernel_rfl) (fun _ _ _ h => h) (Or.inl ⟨by kernel_rfl, ?_⟩) ?_
  case refine_2 => intro w; go_simp; try with_reducible rfl
  refine wpAny_take (i := 32) (v := ?_) rfl (by kernel_rfl) (by kernel_rfl) (by kernel_rfl) (fun _ _ _ h => h) (Or.inl ⟨by kernel_rfl, ?_⟩) ?_
  case refine_2 => intro w; go_simp; try with_reducible rfl
  refine wpAny_ready (rs := [30, 31]) (by kernel_rfl) (by simp) ?_
  refine AllReady.cons rfl (fun K hK => ?_) (AllReady.cons rfl (fun K hK => ?_) AllReady.nil)
  ·
   go_simp
   refine (attr_Cmp.calls k Ao co l0 A1 c1 l1 c _ (Kd.C_below HO.out.2.2 (below_far HV6.out HZ.out)) HO.out.2.1 (Kd.C_below HR1.out (below_far HB6.out HZ.out)) hc1 H.out.cmp).mono ?_
   rintro e w10 ⟨rfl, hb⟩
   have hz := below_far HZ.out hb
   clear hb HZ
   have HZ := Aside0.mk hz
   clear hz
   refine hK _ _ ?_
   clear hK K
   refine wpAny_ready (rs := [31]) (by kernel_rfl) (by simp) ?_
   refine AllReady.cons rfl (fun K hK => ?_) AllReady.nil
   have c5 := (boxed_below B5.out (below_far HW6.out HZ.out)).cell
   go_simp
   refine hK _ _ ?_
   clear hK K
   clear c5
   refine wpAny_ready (rs := [33]) (by kernel_rfl) (by simp) ?_
   refine AllReady.cons rfl (fun K hK => ?_) AllReady.nil
   go_simp
   refine (belfryref04_Cmp.calls k A0 c0 l0 A1 c1 l1 c _ (Kd.C_below HR0.out (below_far HB6.out HZ.out)) hc0 (Kd.C_below HR1.out (below_far HB6.out HZ.out)) hc1 H.out.cmp').mono ?_
   rintro e w11 ⟨rfl, hd⟩
   have hz := below_far HZ.out (drawn_below hd)
   clear hd HZ
   have HZ := Aside0.mk hz
   clear hz
   refine hK _ _ ?_
   clear hK K
   refine wpAny_take (i := 34) (v := ?_) rfl (by kernel_rfl) (by kernel_rfl) (by kernel_rfl) (fun _ _ _ h => h) (Or.inl ⟨by kernel_rfl, ?_⟩) ?_
   case refine_2 => intro w; go_simp; try with_reducible rfl
   refine wpAny_take (i := 35) (v := ?_) rfl (by kernel_rfl) (by kernel_rfl) (by kernel_rfl) (fun _ _ _ h => h) (Or.inl ⟨by kernel_rfl, ?_⟩) ?_
   case refine_2 => intro w; go_simp; try with_reducible rfl
   refine wpAny_done (by kernel_rfl) ?_ _
   refine NoPanic.normal ?_
   go_wp2_with fail
   go_meet
   case rel => exact ⟨rfl, HZ⟩
  ·
   have c5 := (boxed_below B5.out (below_far HW6.out HZ.out)).cell
   go_simp
   refine hK _ _ ?_
   clear hK K
   clear c5
   refine wpAny_ready (rs := [30]) (by kernel_rfl) (by simp) ?_
   refine AllReady.cons rfl (fun K hK => ?_) AllReady.nil
   go_simp
   refine (attr_Cmp.calls k Ao co l0 A1 c1 l1 c _ (Kd.C_below HO.out.2.2 (below_far HV6.out HZ.out)) HO.out.2.1 (Kd.C_below HR1.out (below_far HB6.out HZ.out)) hc1 H.out.cmp).mono ?_
   rintro e w10 ⟨rfl, hb⟩
   have hz := below_far HZ.out hb
   clear hb HZ
   have HZ := Aside0.mk hz
   clear hz
   refine hK _ _ ?_
   clear hK K
   refine wpAny_ready (rs := [33]) (by kernel_rfl) (by simp) ?_
   refine AllReady.cons rfl (fun K hK => ?_) AllReady.nil
   go_simp
   refine (belfryref04_Cmp.calls k A0 c0 l0 A1 c1 l1 c _ (Kd.C_below HR0.out (below_far HB6.out HZ.out)) hc0 (Kd.C_below HR1.out (below_far HB6.out HZ.out)) hc1 H.out.cmp').mono ?_
   rintro e w11 ⟨rfl, hd⟩
   have hz := below_far HZ.out (drawn_below hd)
   clear hd HZ
   have HZ := Aside0.mk hz
   clear hz
   refine hK _ _ ?_
   clear hK K
   refine wpAny_take (i := 34) (v := ?_) rfl (by kernel_rfl) (by kernel_rfl) (by kernel_rfl) (fun _ _ _ h => h) (Or.inl ⟨by kernel_rfl, ?_⟩) ?_
   case refine_2 => intro w; go_simp; try with_reducible rfl
   refine wpAny_take (i := 35) (v := ?_) rfl (by kernel_rfl) (by kernel_rfl) (by kernel_rfl) (fun _ _ _ h => h) (Or.inl ⟨by kernel_rfl, ?_⟩) ?_
   case refine_2 => intro w; go_simp; try with_reducible rfl
   refine wpAny_done (by kernel_rfl) ?_ _
   refine NoPanic.normal ?_
   go_wp2_with fail
   go_meet
   case rel => exact ⟨rfl, HZ⟩
 case rest =>
  obtain ⟨rfl, HZ⟩ := hcut
  go_wp2_with fail
  have ra : Kd.R k45 45 wc w3.heap.size (fun k_ => k_ < w5.heap.size) (.slice (some ⟨0, 0, none⟩) 0 0) [] → True := fun _ => trivial
  clear ra
  have ra := Kd.R_below (Kd.R_below (Kd.R_mono (ok' := fun k_ => k_ < w5.heap.size) (Kd.R_bound HA5.out) (fun _ h => h.2.2.1)) HT6.out) HZ.out
  have rc := Kd.R_below (Kd.R_mono (ok' := fun k_ => w5.heap.size ≤ k_) (Kd.R_bound HC.out) (fun _ h => h.2.1)) HZ.out
  refine (belfrylaw04_spoil.calls k (fun k_ => k_ < w5.heap.size) _ s.1 x w3 _ (below_far HS6.out HZ.out) ra H.out.sp1).mono ?_
  rintro e w12 ⟨rfl, -, hb, hk⟩
  have HX12 := Aside0.mk hb
  have HC12 := Aside0.mk (Kd.R_lower (base' := w3.heap.size) (Kd.R_step (w1 := w12) rc (fun k_ hok hlt => hk.2 k_ hlt (by omega))) (by have := HS5.out.size; omega))
  clear hb hk ra rc
  go_wp2_with fail
  refine (belfrylaw04_spoil.calls k (fun k_ => w5.heap.size ≤ k_) _ wo y w3 _ HX12.out HC12.out H.out.sp2).mono ?_
  rintro e w13 ⟨rfl, -, hb, -⟩
  have HX13 := Aside0.mk hb
  clear hb
  have hnf := func_not_nil
  go_wp2_with (go_at_call 27; refine (callsIn_wide.1 (each_in Fence.wide 5 trivial rfl Ao l0.length co _)).mono ?_; rintro e w' ⟨rfl, rfl⟩)
  have hC13 := Kd.C_below HO.out.2.2 (below_far HV3.out HX13.out)
  have hR13 := Kd.C_below HR0.out (below_far HB3.out HX13.out)
  have b5 := boxed_below B5.out (below_far HW3.out HX13.out)
  have b10 := boxed_below B10.out (below_far HW3.out HX13.out)
  have bI : Boxed ((w13.alloc (.cells #[.int .i64 0] 3)).alloc (.cells #[.slice Ao l0.length co] 22)) w13.heap.size 3 (.int .i64 0) := (Boxed.new w13 3 _).alloc _
  have bE : Boxed ((w13.alloc (.cells #[.int .i64 0] 3)).alloc (.cells #[.slice Ao l0.length co] 22)) (w13.heap.size + 1) 22 (.slice Ao l0.length co) := by
   have := Boxed.new (w13.alloc (.cells #[.int .i64 0] 3)) 22 (.slice Ao l0.length co)
   rw [World.size_alloc] at this
   exact this
  have hB14 : Below w13.heap.size w13 ((w13.alloc (.cells #[.int .i64 0] 3)).alloc (.cells #[.slice Ao l0.length co] 22)) := ((Below.refl _ w13).alloc (Nat.le_refl _) _).alloc (by simp) _
  have hs14 : w13.heap.size + 2 = ((w13.alloc (.cells #[.int .i64 0] 3)).alloc (.cells #[.slice Ao l0.length co] 22)).heap.size := by simp
  generalize (w13.alloc (.cells #[.int .i64 0] 3)).alloc (.cells #[.slice Ao l0.length co] 22) = W14 at bI bE hB14 hs14 ⊢
  clear hnf
  refine (wpIn_wide (n := 5)).1 ?_
  refine' wpIn_rangeFunc_ownG (F := Fence.wide) rfl (by omega) (gf := 44) (lb := #[.pointer (some ⟨w13.heap.size + 1, 0, none⟩)]) rfl trivial (enters_of Tryz.func44 (by kernel_rfl) rfl)
   (each_stops id l0 Fence.wide _ trivial rfl (by omega) (w13.heap.size + 1) co Ao l0 (List.map_id _) w13 W14 hC13 HO.out.2.1 hB14 bE.cell) belowK_t (belowK_b (by omega)) (Below.refl _ _) (fun _ => rfl)
   (PI w13 (.slice Ao l0.length co)) (fun _ pre _ => ¬ pre <+: l0)
   (OwnFrom.and (Own.from (boxed_own w13.heap.size 3 (fun pre : List S45 => .int .i64 (pre.length : Int))) _) (OwnFrom.and (Own.from (boxed_own (w13.heap.size + 1) 22 (fun _ : List S45 => .slice Ao l0.length co)) _) (ownFrom_below (Nat.le_refl _) (by omega))))
   (fun _ _ _ _ _ hs _ _ => hs) ⟨bI, bE, hB14⟩ _ ?assign ?body ?done ?stop
  case assign =>
   intro l x W K hK
   gi_wp2
   exact hK
  case stop =>
   rintro D c pre W _ hp hn _
   exact absurd hp hn
  case body =>
   rintro l pre x W ⟨hi, hE, hB⟩ hlt
   have hl0 := HL.out
   obtain ⟨ad, e, hx0, hx1⟩ := at_T45 hR13 (pre.length : Int) (by omega) (by omega)
   subst e
   replace hx0 := (hB.cell (World.block_lt_of_cell? w13 _ hx0)).trans hx0
   replace hx1 := (hB.cell (World.block_lt_of_cell? w13 _ hx1)).trans hx1
   rw [Int.toNat_natCast] at hx0 hx1
   have c5 := (boxed_below b5 hB).cell
   have ci := hi.cell
   have fi := hi.frozen
   have f10 := (boxed_below b10 hB).frozen
   have c10 := (boxed_below b10 hB).cell
   have hne : w.heap.size + 1 < w13.heap.size := b10.lt
   have hrd : rd_T45 l0 (pre.length : Int) = l0[pre.length] := by simp [rd_T45, hlt]
   have hbl : (pre.length : Int) < (l0.length : Int) := by omega
   have hd1 : decide ((l0.length : Int) ≤ (pre.length : Int)) = false := decide_eq_false (by omega)
   have hd2 : decide (l0.length ≤ pre.length) = false := decide_eq_false (by omega)
   have HI := Aside0.mk hi
   have HBW := Aside0.mk hB
   generalize rd_T45 l0 (pre.length : Int) = v at hx0 hx1 hrd
   have HV := Aside0.mk hrd
   have HLT := Aside0.mk hlt
   have hi' : PI w13 (.slice Ao l0.length co) pre W := ⟨hi, hE, hB⟩
   clear hi hE hB hrd hR13 hC13 bI bE hB14 b5 b10
   have HN := Aside0.mk (fun hp : (pre ++ [x]) <+: l0 => HV.out.trans (pre_get hp HLT.out))
   have HQ := Aside0.mk hi'
   clear hi'
   gi_wp2
   ·
    refine ⟨(KeepsOthers.setCell W _ _).from _, fun hp => ?_⟩
    have e := HN.out hp
    first | exact (by assumption : ¬ v.f0.toList = x.f0.toList) (by rw [e]) | (rename_i h'; rw [e] at h'; simp at h')
   ·
    exact ⟨(KeepsOthers.setCell W _ _).from _, (Below.refl w13.heap.size W).setCell (p := ⟨w13.heap.size, 0, none⟩) (Nat.le_refl _) _, pi_next HQ.out⟩
   ·
    refine ⟨(KeepsOthers.setCell W _ _).from _, fun hp => ?_⟩
    have e := HN.out hp
    first | exact (by assumption : ¬ v.f0.toList = x.f0.toList) (by rw [e]) | (rename_i h'; rw [e] at h'; simp at h')
  case done =>
   rintro D zs W hD hz ⟨hi, hE, hB⟩ hK
   rw [hz] at hi
   clear hz zs
   go_wp2_with fail
   refine (wpIn_wide (n := 5)).1 ?_
   refine' wpIn_rangeFunc_ownG (F := Fence.wide) rfl (by omega) (gf := 44) (lb := #[.pointer (some ⟨w13.heap.size + 1, 0, none⟩)]) rfl trivial (enters_of Tryz.func44 (by kernel_rfl) rfl)
    (each_stops id l0 Fence.wide _ trivial rfl (by omega) (w13.heap.size + 1) co Ao l0 (List.map_id _) W W (Kd.C_below hC13 hB) HO.out.2.1 (Below.refl _ _) hE.cell) belowK_t (belowK_b (Nat.le_refl _)) (Below.refl _ _) (fun _ => rfl)
    (fun pre W' => pre = [] ∧ Below W.heap.size W W') (fun c _ W' => c = .exit 2 ∧ Below W.heap.size W W')
    (OwnFrom.and (ownFrom_pure _ _) (ownFrom_below (Nat.le_refl _) (Nat.le_refl _)))
    (fun c => OwnFrom.and (ownFrom_pure _ (fun _ => c = .exit 2)) (ownFrom_below (Nat.le_refl _) (Nat.le_refl _))) ⟨rfl, Below.refl _ _⟩ _ ?assign ?body ?done ?stop
   case assign =>
    intro l x W K hK
    gi_wp2
    exact hK
   case body =>
    rintro l pre x W' ⟨rfl, hB2⟩ hlt
    gi_wp2
    exact ⟨KeepsFrom.refl _ _, rfl, hB2⟩
   case done =>
    rintro D2 xs W2 hD2 - ⟨-, hB2⟩ hK2
    have hX2 := below_far hB hB2
    have HX2 := Aside0.mk hX2
    have HB2 := Aside0.mk hB2
    have HK2 := Aside0.mk hK2
    have c5 := (boxed_below b5 hX2).cell
    have ci := (boxed_below hi hB2).cell
    clear hX2 hB2 hK2
    go_wp2_with fail
    refine (belfryref04_Same.calls k Ao co l0 A0 c0 l0 true _ (Kd.C_below hC13 HX2.out) HO.out.2.1 (Kd.C_below hR13 HX2.out) hc0 H.out.same3).mono ?_
    rintro e w20 ⟨rfl, hd⟩
    have HX3 := Aside0.mk (below_far HX2.out (drawn_below hd))
    have HB3' := Aside0.mk (below_far HB2.out (drawn_below hd))
    have HZ3 := Aside0.mk (drawn_below hd)
    clear hd c5 ci
    go_wp2_with fail
    refine (belfrylaw04_known.calls k true _ H.out.known (env_below (env_below HE.out HB3.out) (below_far HX13.out HX3.out))).mono ?_
    rintro e w21 ⟨rfl, hb⟩
    have HX4 := Aside0.mk (below_far HX3.out hb)
    have HB4' := Aside0.mk (below_far HB3'.out hb)
    have HZ4 := Aside0.mk (below_far HZ3.out hb)
    have b10' := boxed_below b10 HX4.out
    have c10 := b10'.cell
    have f10 := b10'.frozen
    clear hb
    go_wp2_with fail
    exact picks_end b10' (by have := b10.lt; omega) (by have := (Array.getElem?_eq_some_iff.1 hK).1; omega) (by omega) ((HB4'.out.block D (Array.getElem?_eq_some_iff.1 hK).1).trans hK) ((HZ4.out.block D2 (Array.getElem?_eq_some_iff.1 HK2.out).1).trans HK2.out) _ rfl (below_far HB3.out (below_far HX13.out HX4.out))
   case stop =>
    rintro D2 c' pre W2 hD2 - ⟨rfl, hB2⟩ hK2
    gi_wp2
    have hX2 := below_far hB hB2
    have HX2 := Aside0.mk hX2
    have HB2 := Aside0.mk hB2
    have HK2 := Aside0.mk hK2
    have c5 := (boxed_below b5 hX2).cell
    have ci := (boxed_below hi hB2).cell
    clear hX2 hB2 hK2
    go_wp2_with fail
    refine (belfryref04_Same.calls k Ao co l0 A0 c0 l0 true _ (Kd.C_below hC13 HX2.out) HO.out.2.1 (Kd.C_below hR13 HX2.out) hc0 H.out.same3).mono ?_
    rintro e w20 ⟨rfl, hd⟩
    have HX3 := Aside0.mk (below_far HX2.out (drawn_below hd))
    have HB3' := Aside0.mk (below_far HB2.out (drawn_below hd))
    have HZ3 := Aside0.mk (drawn_below hd)
    clear hd c5 ci
    go_wp2_with fail
    refine (belfrylaw04_known.calls k true _ H.out.known (env_below (env_below HE.out HB3.out) (below_far HX13.out HX3.out))).mono ?_
    rintro e w21 ⟨rfl, hb⟩
    have HX4 := Aside0.mk (below_far HX3.out hb)
    have HB4' := Aside0.mk (below_far HB3'.out hb)
    have HZ4 := Aside0.mk (below_far HZ3.out hb)
    have b10' := boxed_below b10 HX4.out
    have c10 := b10'.cell
    have f10 := b10'.frozen
    clear hb
    go_wp2_with fail
    exact picks_end b10' (by have := b10.lt; omega) (by have := (Array.getElem?_eq_some_iff.1 hK).1; omega) (by omega) ((HB4'.out.block D (Array.getElem?_eq_some_iff.1 hK).1).trans hK) ((HZ4.out.block D2 (Array.getElem?_eq_some_iff.1 HK2.out).1).trans HK2.out) _ rfl (below_far HB3.out (below_far HX13.out HX4.out))
end Go.Proofs.YtnfanpjfhdlddaaGreatDoor.Pr
end
section
set_option linter.unusedVariables false
set_option linter.unusedSimpArgs false
namespace Go.Proofs.YtnfanpjfhdlddaaGreatDoor.Pr
open Go.RowKit Go.Proofs.YtnfanpjfhdlddaaGreatDoorW.PrintWords Go.Proofs.YtnfanpjfhdlddaaGreatDoorW.PrintLast Go.Proofs.YtnfanpjfhdlddaaGreatDoorW.PrintMore
theorem rget_l0 (key : ByteArray) (l : List S45) (hl : l.length < 4398046511104) : ∀ (n i : Nat), i + n = l.length → ∀ k, n < k → belfryref04_Get.l0 k l key (i : Int) = some (getL key (l.drop i))
 | _, _, _, 0, hk => absurd hk (by omega)
 | 0, i, hn, k + 1, hk => by
  rw [belfryref04_Get.l0, if_neg (by omega), List.drop_of_length_le (show l.length ≤ i by omega)]; rfl
 | n + 1, i, hn, k + 1, hk => by
  have hi : i < l.length := by omega
  rw [belfryref04_Get.l0, if_pos (by omega), if_pos (by omega), rd_at l i hi, drop_cons l i hi, getL, wrap_small (n := (i : Int) + 1) (by omega) (by omega), show (i : Int) + 1 = ((i + 1 : Nat) : Int) by omega, rget_l0 key l hl n (i + 1) (by omega) k (by omega)]
  simp only [Lib.toList_data]
  by_cases h : keyL l[i] = key.data.toList
  ·
   rw [if_pos h, if_pos h]
  ·
   rw [if_neg h, if_neg h]
theorem rget_ev (key : ByteArray) (l : List S45) (hl : l.length < 4398046511104) : Ev (fun k => belfryref04_Get.f k l key) (getL key l) := by
 refine ⟨l.length + 1, fun k hk => ?_⟩
 have := rget_l0 key l hl l.length 0 (by omega) k (by omega)
 exact this
def inB (ks : List ByteArray) (s : ByteArray) : Bool := ks.any fun a => a.data.toList == s.data.toList
theorem rdOf_at (ks : List ByteArray) (i : Nat) (h : i < ks.length) : rdOf ByteArray.empty ks (i : Int) = ks[i] := by simp [rdOf, h]
theorem index_l0 (ks : List ByteArray) (s : ByteArray) (hks : ks.length < 4611686018427387904) : ∀ (n i : Nat), i + n = ks.length → ∃ r : Int, decide (r ≥ 0) = inB (ks.drop i) s ∧ ∀ k, n < k → slices_Index_string_string.l0 k ks s (ks.length : Int) (i : Int) = some r
 | 0, i, hn => ⟨-1, by rw [List.drop_of_length_le (show ks.length ≤ i by omega)]; rfl, fun k hk => by
  obtain ⟨k, rfl⟩ : ∃ j, k = j + 1 := ⟨k - 1, by omega⟩
  rw [slices_Index_string_string.l0, if_neg (by omega)]⟩
 | n + 1, i, hn => by
  have hi : i < ks.length := by omega
  obtain ⟨r, hr, hk'⟩ := index_l0 ks s hks n (i + 1) (by omega)
  have hd : ks.drop i = ks[i] :: ks.drop (i + 1) := List.drop_eq_getElem_cons hi
  by_cases h : s.data.toList = ks[i].data.toList
  ·
   refine ⟨i, ?_, fun k hk => ?_⟩
   ·
    rw [hd, inB, List.any_cons, h]; simp
   ·
    obtain ⟨k, rfl⟩ : ∃ j, k = j + 1 := ⟨k - 1, by omega⟩
    rw [slices_Index_string_string.l0, if_pos (by omega), if_pos (by omega), if_pos (by omega), rdOf_at ks i hi]
    simp only [Lib.toList_data]
    rw [if_pos h]
  ·
   refine ⟨r, ?_, fun k hk => ?_⟩
   ·
    rw [hd, inB, List.any_cons, beq_eq_false_iff_ne.2 (fun e => h e.symm), Bool.false_or]; exact hr
   ·
    obtain ⟨k, rfl⟩ : ∃ j, k = j + 1 := ⟨k - 1, by omega⟩
    rw [slices_Index_string_string.l0, if_pos (by omega), if_pos (by omega), if_pos (by omega), rdOf_at ks i hi]
    simp only [Lib.toList_data]
    rw [if_neg h, wrap_small (n := (i : Int) + 1) (by omega) (by omega)]
    exact hk' k (by omega)
theorem contains_ev (ks : List ByteArray) (s : ByteArray) (hks : ks.length < 4611686018427387904) : Ev (fun k => slices_Contains_string_string.f k ks s) (inB ks s) := by
 obtain ⟨r, hr, hk⟩ := index_l0 ks s hks ks.length 0 (by omega)
 refine ⟨ks.length + 1, fun k hk' => ?_⟩
 dsimp only
 unfold slices_Contains_string_string.f slices_Index_string_string.f
 have := hk k (by omega)
 rw [show ((0 : Nat) : Int) = 0 from rfl] at this
 rw [this, Option.bind_some, hr]
 rfl
def woK (ks : List ByteArray) (l : List S45) : List S45 := l.filter fun x => !inB ks x.f0
theorem wok_l0 (ks : List ByteArray) (hks : ks.length < 4611686018427387904) (l : List S45) (hl : l.length < 4398046511104) : ∀ (n i : Nat) (m : List S45), i + n = l.length → m.length ≤ i → Ev (fun k => attr_Without.l0 k ks m l (l.length : Int) (i : Int)) (m ++ woK ks (l.drop i))
 | 0, i, m, hn, hm => by
  refine ⟨1, fun k hk => ?_⟩
  obtain ⟨k, rfl⟩ : ∃ j, k = j + 1 := ⟨k - 1, by omega⟩
  dsimp only
  rw [attr_Without.l0, if_neg (by omega), List.drop_of_length_le (show l.length ≤ i by omega)]
  simp [woK]
 | n + 1, i, m, hn, hm => by
  have hi : i < l.length := by omega
  obtain ⟨C, hC⟩ := contains_ev ks l[i].f0 hks
  obtain ⟨K1, h1⟩ := wok_l0 ks hks l hl n (i + 1) m (by omega) (by omega)
  obtain ⟨K2, h2⟩ := wok_l0 ks hks l hl n (i + 1) (m ++ [l[i]]) (by omega) (by simp; omega)
  refine ⟨C + K1 + K2 + 1, fun k hk => ?_⟩
  obtain ⟨k, rfl⟩ : ∃ j, k = j + 1 := ⟨k - 1, by omega⟩
  have hC' := hC k (by omega)
  have h1' := h1 k (by omega)
  have h2' := h2 k (by omega)
  dsimp only at hC' h1' h2' ⊢
  rw [attr_Without.l0, if_pos (by omega), if_pos (by omega), if_pos (by omega), rd_at l i hi, hC', Option.bind_some, wrap_small (n := (i : Int) + 1) (by omega) (by omega), drop_cons l i hi]
  unfold woK
  rw [List.filter_cons]
  cases h : inB ks l[i].f0 with
  | true =>
   rw [if_pos rfl, if_neg (by simp)]
   exact h1'
  | false =>
   rw [if_neg (by simp), if_pos (by omega), if_pos (by simp)]
   refine h2'.trans ?_
   simp [woK]
theorem wok_ev (ks : List ByteArray) (hks : ks.length < 4611686018427387904) (l : List S45) (hl : l.length < 4398046511104) : Ev (fun k => attr_Without.f k l ks) (woK ks l) := by
 have := wok_l0 ks hks l hl l.length 0 [] (by omega) (Nat.le_refl _)
 exact this
theorem rwok_l1 (ks : List ByteArray) (hks : ks.length < 4611686018427387904) (l : List S45) (hl : l.length < 4398046511104) (m : List S45) (i : Nat) (hi : i < l.length) (hm : m.length ≤ i) (r : List S45) (K : Nat)
  (h1 : ∀ k, K ≤ k → belfryref04_Without.l0 k l ks (if inB ks l[i].f0 then m else m ++ [l[i]]) ((i + 1 : Nat) : Int) = some r) : ∀ (n j : Nat) (has : Bool), j + n = ks.length → (has || inB (ks.drop j) l[i].f0) = inB ks l[i].f0 → ∀ k, K + n < k → belfryref04_Without.l1 k l ks m (i : Int) has (j : Int) = some r
 | _, _, _, _, _, 0, hk => absurd hk (by omega)
 | 0, j, has, hn, hh, k + 1, hk => by
  rw [List.drop_of_length_le (show ks.length ≤ j by omega)] at hh
  have hh' : has = inB ks l[i].f0 := by rw [← hh]; simp [inB]
  rw [belfryref04_Without.l1, if_neg (by omega)]
  have := h1 k (by omega)
  rw [← hh'] at this
  cases has with
  | true =>
   rw [if_pos rfl] at this ⊢
   rw [wrap_small (n := (i : Int) + 1) (by omega) (by omega)]; exact this
  | false =>
   rw [if_neg (by simp)] at this ⊢
   rw [if_pos (by omega), if_pos (by omega), if_pos (by omega), rd_at l i hi, wrap_small (n := (i : Int) + 1) (by omega) (by omega)]; exact this
 | n + 1, j, has, hn, hh, k + 1, hk => by
  have hj : j < ks.length := by omega
  have hd : ks.drop j = ks[j] :: ks.drop (j + 1) := List.drop_eq_getElem_cons hj
  rw [hd, inB, List.any_cons] at hh
  rw [belfryref04_Without.l1, if_pos (by omega), wrap_small (n := (j : Int) + 1) (by omega) (by omega), show (j : Int) + 1 = ((j + 1 : Nat) : Int) by omega]
  cases has with
  | true =>
   rw [if_pos rfl]
   exact rwok_l1 ks hks l hl m i hi hm r K h1 n (j + 1) true (by omega) (by rw [← hh]; simp) k (by omega)
  | false =>
   rw [if_neg (by simp), if_pos (by omega), if_pos (by omega), if_pos (by omega), rd_at l i hi, rdOf_at ks j hj]
   simp only [Lib.toList_data]
   exact rwok_l1 ks hks l hl m i hi hm r K h1 n (j + 1) _ (by omega) (by rw [← hh, Bool.false_or]; rfl) k (by omega)
theorem rwok_l0 (ks : List ByteArray) (hks : ks.length < 4611686018427387904) (l : List S45) (hl : l.length < 4398046511104) : ∀ (n i : Nat) (m : List S45), i + n = l.length → m.length ≤ i → Ev (fun k => belfryref04_Without.l0 k l ks m (i : Int)) (m ++ woK ks (l.drop i))
 | 0, i, m, hn, hm => by
  refine ⟨1, fun k hk => ?_⟩
  obtain ⟨k, rfl⟩ : ∃ j, k = j + 1 := ⟨k - 1, by omega⟩
  dsimp only
  rw [belfryref04_Without.l0, if_neg (by omega), List.drop_of_length_le (show l.length ≤ i by omega)]
  simp [woK]
 | n + 1, i, m, hn, hm => by
  have hi : i < l.length := by omega
  obtain ⟨K, hK⟩ := rwok_l0 ks hks l hl n (i + 1) (if inB ks l[i].f0 then m else m ++ [l[i]]) (by omega) (by
   split
   ·
    omega
   ·
    simp; omega)
  refine ⟨K + ks.length + 2, fun k hk => ?_⟩
  obtain ⟨k, rfl⟩ : ∃ j, k = j + 1 := ⟨k - 1, by omega⟩
  dsimp only
  rw [belfryref04_Without.l0, if_pos (by omega)]
  have := rwok_l1 ks hks l hl m i hi hm _ K (fun k hk => hK k hk) ks.length 0 false (by omega) (by simp) k (by omega)
  rw [show ((0 : Nat) : Int) = 0 from rfl] at this
  rw [this, drop_cons l i hi]
  unfold woK
  rw [List.filter_cons]
  cases inB ks l[i].f0 <;> simp
theorem rwok_ev (ks : List ByteArray) (hks : ks.length < 4611686018427387904) (l : List S45) (hl : l.length < 4398046511104) : Ev (fun k => belfryref04_Without.f k l ks) (woK ks l) := by
 have := rwok_l0 ks hks l hl l.length 0 [] (by omega) (Nat.le_refl _)
 exact this
theorem woK_len (ks : List ByteArray) (l : List S45) : (woK ks l).length ≤ l.length := List.length_filter_le _ _
theorem woK_one (key : ByteArray) (l : List S45) : woK [key] l = woL key l := by
 unfold woK woL
 congr 1
 funext x
 simp [inB]
theorem rset_ev (l : List S45) (key value : ByteArray) (hl : l.length < 4398046511104) : Ev (fun k => belfryref04_Set.f k l key value) (putL l key value) := by
 unfold belfryref04_Set.f putL
 have hw := woL_len key l
 have h0 := rwok_ev [key] (by simp) l hl
 rw [woK_one] at h0
 refine Ev.bind h0 ?_
 by_cases h : value.size = 0
 ·
  simp only [if_pos (nil_size.2 h), if_pos h]
  exact Ev.bind (ref_make_eq _) (Ev.const rfl)
 ·
  simp only [if_neg (fun e => h (nil_size.1 e)), if_neg h, if_pos (show (woL key l).length < 4398046511104 by omega)]
  exact Ev.bind (ref_make_eq _) (Ev.const rfl)
theorem cb_by (a b : List UInt8) : Lib.compareBytes a b = if Op.bytesLess a b = true then -1 else if Op.bytesLess b a = true then 1 else 0 := by
 have h1 := cmp_lt a b
 have h2 := cmp_lt b a
 have h3 := cmp_flip a b
 have h4 := cmp_range a b
 by_cases c1 : Lib.compareBytes a b < 0
 ·
  rw [← h1, decide_eq_true c1, if_pos rfl]; omega
 ·
  rw [← h1, decide_eq_false c1, if_neg (by simp)]
  by_cases c2 : Lib.compareBytes b a < 0
  ·
   rw [← h2, decide_eq_true c2, if_pos rfl]; omega
  ·
   rw [← h2, decide_eq_false c2, if_neg (by simp)]; omega
theorem cmpAttr_by (x y : S45) : cmpAttr x y = if Op.bytesLess x.f0.data.toList y.f0.data.toList = true then -1 else if Op.bytesLess y.f0.data.toList x.f0.data.toList = true then 1 else if Op.bytesLess x.f1.data.toList y.f1.data.toList = true then -1 else if Op.bytesLess y.f1.data.toList x.f1.data.toList = true then 1 else 0 := by
 unfold cmpAttr
 by_cases h : x.f0.data.toList = y.f0.data.toList
 ·
  rw [if_pos h, h, bytesLess_irrefl, if_neg (by simp), if_neg (by simp), cb_by]
 ·
  rw [if_neg h, cb_by]
  by_cases c1 : Op.bytesLess x.f0.data.toList y.f0.data.toList = true
  ·
   rw [if_pos c1, if_pos c1]
  ·
   rw [if_neg c1, if_neg c1]
   have : Op.bytesLess y.f0.data.toList x.f0.data.toList = true := by
    rw [← bytesLess_total, Bool.eq_false_iff.2 c1, beq_eq_false_iff_ne.2 h]; rfl
   rw [if_pos this, if_pos this]
theorem rcmp_l0 (a b : List S45) (ha : a.length < 4398046511104) (hb : b.length < 4398046511104) : ∀ (n i : Nat), i + n = a.length → i ≤ b.length → ∀ k, 2 * n + 1 < k → belfryref04_Cmp.l0 k a b (i : Int) = some (cmpL (a.drop i) (b.drop i))
 | _, _, _, _, 0, hk => absurd hk (by omega)
 | _, _, _, _, 1, hk => absurd hk (by omega)
 | 0, i, hn, hib, k + 2, hk => by
  rw [belfryref04_Cmp.l0, if_neg (by omega), belfryref04_Cmp.j1, if_neg (by simp), List.drop_of_length_le (show a.length ≤ i by omega)]
  by_cases h : i < b.length
  ·
   rw [if_pos (by omega), drop_cons b i h]; rfl
  ·
   rw [if_neg (by omega), if_neg (by omega), List.drop_of_length_le (show b.length ≤ i by omega)]; rfl
 | n + 1, i, hn, hib, k + 2, hk => by
  have hi : i < a.length := by omega
  rw [belfryref04_Cmp.l0, if_pos (by omega)]
  by_cases h : i < b.length
  ·
   have ih := rcmp_l0 a b ha hb n (i + 1) (by omega) (by omega) k (by omega)
   rw [decide_eq_true (show (i : Int) < (b.length : Int) by omega), belfryref04_Cmp.j1, if_pos rfl, if_pos (by omega), if_pos (by omega), if_pos (by omega), rd_at a i hi, rd_at b i h, wrap_small (n := (i : Int) + 1) (by omega) (by omega), show (i : Int) + 1 = ((i + 1 : Nat) : Int) by omega, ih, drop_cons a i hi, drop_cons b i h, cmpL, cmpAttr_by]
   simp only [Lib.toList_data]
   by_cases c1 : Op.bytesLess a[i].f0.data.toList b[i].f0.data.toList = true
   ·
    simp [c1]
   ·
    by_cases c2 : Op.bytesLess b[i].f0.data.toList a[i].f0.data.toList = true
    ·
     simp [c1, c2]
    ·
     by_cases c3 : Op.bytesLess a[i].f1.data.toList b[i].f1.data.toList = true
     ·
      simp [c1, c2, c3]
     ·
      by_cases c4 : Op.bytesLess b[i].f1.data.toList a[i].f1.data.toList = true
      ·
       simp [c1, c2, c3, c4]
      ·
       simp [c1, c2, c3, c4]
  ·
   rw [decide_eq_false (show ¬ (i : Int) < (b.length : Int) by omega), belfryref04_Cmp.j1, if_neg (by simp), if_neg (by omega), if_pos (by omega), drop_cons a i hi, List.drop_of_length_le (show b.length ≤ i by omega)]; rfl
theorem rcmp_ev (a b : List S45) (ha : a.length < 4398046511104) (hb : b.length < 4398046511104) : Ev (fun k => belfryref04_Cmp.f k a b) (cmpL a b) := by
 refine ⟨2 * a.length + 2, fun k hk => ?_⟩
 have := rcmp_l0 a b ha hb a.length 0 (by omega) (Nat.zero_le _) k (by omega)
 exact this
theorem spoil_ev' (m : List S45) (hm : m.length < 4398046511104) : ∃ v, Ev (fun k => belfrylaw04_spoil.f k m) v := by
 obtain ⟨v, hv⟩ := spoil_ev m.length 0 m hm (by omega)
 exact ⟨v, m.length + 1, fun k hk => by have := hv k (by omega); rw [show ((0 : Nat) : Int) = 0 from rfl] at this; exact this⟩
theorem picks_law (l m : List S45) (key value : ByteArray) (ks : List ByteArray) (hl : l.length < 4398046511104) (hm : m.length < 4398046511104) (hks : ks.length < 4611686018427387904) :
  ∃ k x y, PicksAt k l m key value ks (getL key l) (putL l key value) (woK ks l) (cmpL l m) x y := by
 have hp := putL_len l key value
 have hw := woK_len ks l
 obtain ⟨x, K1, h1⟩ := spoil_ev' (putL l key value).1 (by omega)
 obtain ⟨y, K2, h2⟩ := spoil_ev' (woK ks l) (by omega)
 obtain ⟨K3, h3⟩ := get_ev key l hl
 obtain ⟨K4, h4⟩ := rget_ev key l hl
 obtain ⟨K5, h5⟩ := set_ev l key value hl
 obtain ⟨K6, h6⟩ := rset_ev l key value hl
 obtain ⟨K7, h7⟩ := wok_ev ks hks l hl
 obtain ⟨K8, h8⟩ := rwok_ev ks hks l hl
 obtain ⟨K9, h9⟩ := same_eq (putL l key value).1 (putL l key value).1 (by omega)
 obtain ⟨K10, h10⟩ := same_eq (woK ks l) (woK ks l) (by omega)
 obtain ⟨K11, h11⟩ := cmpL_ev l m hl
 obtain ⟨K12, h12⟩ := rcmp_ev l m hl hm
 obtain ⟨K13, h13⟩ := same_eq l l hl
 obtain ⟨K14, h14⟩ := known_ev
 rw [sameL_refl] at h9 h10 h13
 refine ⟨K1 + K2 + K3 + K4 + K5 + K6 + K7 + K8 + K9 + K10 + K11 + K12 + K13 + K14, x, y, ?_, h3 _ (by omega), h4 _ (by omega), h5 _ (by omega), h6 _ (by omega), h7 _ (by omega), h8 _ (by omega), h9 _ (by omega), h10 _ (by omega), h11 _ (by omega), h12 _ (by omega), h1 _ (by omega), h2 _ (by omega), h13 _ (by omega), h14 _ (by omega)⟩
 rw [belfrylaw04_lent.f, if_pos (by simpa using hl)]
 rfl
end Go.Proofs.YtnfanpjfhdlddaaGreatDoor.Pr
end
