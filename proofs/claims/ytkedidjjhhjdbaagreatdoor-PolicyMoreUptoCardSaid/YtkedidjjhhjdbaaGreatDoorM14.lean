import Derived.Test.YtkedidjjhhjdbaaGreatDoorM5
import Derived.Test.YtkedidjjhhjdbaaGreatDoorM3
import Derived.Test.YtkedidjjhhjdbaaGreatDoorM11
import Derived.Test.YtkedidjjhhjdbaaGreatDoorM13
import Derived.Test.YtkedidjjhhjdbaaGreatDoorM6
import Derived.Test.YtkedidjjhhjdbaaGreatDoorM7
import Derived.Test.YtkedidjjhhjdbaaGreatDoorM10
section
namespace Go.Proofs.YtkedidjjhhjdbaaGreatDoor.Pr
open Go.RowKit Go.Proofs.YtkedidjjhhjdbaaGreatDoorW.PrintWords Go.Proofs.YtkedidjjhhjdbaaGreatDoorW.PrintLast Go.Proofs.YtkedidjjhhjdbaaGreatDoorW.PrintMore
attribute [local go_sem] max2_int min2_int max_two min_two max_three min_three max_four min_four strGtr strLeq strGeq
set_option linter.unusedVariables false
set_option linter.unusedSimpArgs false
mutual
def policy_Parse.l0 : Nat → List (S46) → List ByteArray → Int → Int → Option ((List (S46)) × Int × Int)
  | 0, _, _, _, _ => none
  | k + 1, x5, x15, x16, x17 => if x17 < x16 then (if 0 ≤ x17 then (if x17 < (x15.length : Int) then (if (rdOf ByteArray.empty x15 x17).toList = ([] : List UInt8) then (policy_Parse.j1 k x5 x17 (rdOf ByteArray.empty x15 x17) x15 x16 x17 true) else (if 0 < ((rdOf ByteArray.empty x15 x17).size : Int) then (policy_Parse.j1 k x5 x17 (rdOf ByteArray.empty x15 x17) x15 x16 x17 ((bt (rdOf ByteArray.empty x15 x17) 0) == 35)) else (none))) else (none)) else (none)) else (some (x5, 0, 0))
def policy_Parse.j1 : Nat → List (S46) → Int → ByteArray → List ByteArray → Int → Int → Bool → Option ((List (S46)) × Int × Int)
  | 0, _, _, _, _, _, _, _ => none
  | k + 1, x5, x6, x7, x15, x16, x17, x28 => if x28 = true then (policy_Parse.l0 k x5 x15 x16 (wrap64 (x17 + 1))) else (if (x5.length : Int) ≥ 32 then (some (([] : List (S46)), 7, x6)) else ((policy_rule.f k x7).bind fun bt184 => (if bt184.2.2.2.2.2 = true then ((policy_Right.f k bt184.1 bt184.2.1 bt184.2.2.1 bt184.2.2.2.1 bt184.2.2.2.2.1).bind fun t195 => (if t195 = 0 then (if x5.length < 1759218604441 then (policy_Parse.l0 k (x5 ++ [(⟨bt184.1, bt184.2.1, bt184.2.2.1, bt184.2.2.2.1, bt184.2.2.2.2.1⟩ : S46)]) x15 x16 (wrap64 (x17 + 1))) else (none)) else (some (([] : List (S46)), t195, x6)))) else (some (([] : List (S46)), 110, x6)))))
end
def policy_Parse.f (k : Nat) (a0 : ByteArray) : Option ((List (S46)) × Int × Int) := if (a0.size : Int) > 65536 then (some (([] : List (S46)), 4, 0)) else ((strings_Split.f a0 (⟨#[10]⟩ : ByteArray)).bind fun t180 => (policy_Parse.l0 k ([] : List (S46)) t180 (t180.length : Int) 0))
set_option maxHeartbeats 8000000 in
set_option maxRecDepth 100000 in
theorem policy_Parse.calls (k : Nat) (a0 : ByteArray) (r1 : List (S46)) (r2 : Int) (r3 : Int) (w : World) (h : policy_Parse.f k a0 = some (r1, r2, r3)) (he_ : EnvW w := by repeat (first | with_reducible assumption | with_reducible exact env_of (by with_reducible assumption) (by with_reducible assumption) | with_reducible exact env_out (by with_reducible assumption) | with_reducible apply env_alloc | with_reducible apply env_drewN | with_reducible apply env_drew | with_reducible refine env_set ?_ (by with_reducible assumption) (by with_reducible assumption))) :
  Calls Tryz.prog 17 #[.string a0] w fun e w' => ∃ v0_ : Value, e = .returned (.tuple #[v0_, .int .i64 r2, .int .i64 r3]) ∧ Kd.S k46 46 w' w.heap.size (fun _ => True) v0_ r1 ∧ Below w.heap.size w w' := by
 have HE_ := Aside0.mk he_
 clear he_
 have hu46 := Tryz.underlying46
 have HB := Aside0.mk (Below.refl w.heap.size w)
 have H : (if (a0.size : Int) > 65536 then (some (([] : List (S46)), 4, 0)) else ((strings_Split.f a0 (⟨#[10]⟩ : ByteArray)).bind fun t180 => (policy_Parse.l0 k ([] : List (S46)) t180 (t180.length : Int) 0))) = some (r1, r2, r3) := h
 clear h
 by_cases c2 : (a0.size : Int) > 65536
 ·
  rw [if_pos c2] at H
  have c2b0 : decide (65536 < (a0.size : Int)) = true := decide_eq_true c2
  have c2b1 : decide (65536 < a0.size) = true := decide_eq_true (by omega)
  clear c2
  simp only [Option.some.injEq, Prod.mk.injEq] at H
  obtain ⟨rfl, rfl, rfl⟩ := H
  go_enter Tryz.func17, Tryz.ntmps17
  go_wp2
  go_ret3
  exact ⟨_, by first | rfl | (simp [errW_none, errW_some] <;> rfl) | (simp [*, errW_none, errW_some] <;> rfl), by first | exact Kd.S_nil _ _ _ _ _ | exact Kd.N_nil _ _ _ _ _ | exact Kd.V_nil _ _ _ _ _ | exact Kd.Q_nil _ _ _ _ _ | exact Kd.R_nil _ _ _ _ _, by repeat (first | (with_reducible first | exact HB.out | apply below_alloc | apply pw_below_drewN | apply below_drew1) | exact HB.out)⟩
 ·
  rw [if_neg c2] at H
  have c2b0 : decide (65536 < (a0.size : Int)) = false := decide_eq_false c2
  have c2b1 : decide (65536 < a0.size) = false := decide_eq_false (by omega)
  clear c2
  replace H := Option.bind_eq_some_iff.mp H
  obtain ⟨t180, A30, H⟩ := H
  replace H : (policy_Parse.l0 k ([] : List (S46)) t180 (t180.length : Int) 0) = some (r1, r2, r3) := H
  have A3 := Aside0.mk A30
  clear A30
  have H' := Aside0.mk H
  clear H
  go_enter Tryz.func17, Tryz.ntmps17
  go_wp2_with (first | ((with_reducible refine gate_callee (f := 41) rfl ?_); refine goesL_ (some 15) rfl rfl Tryz.func41 (by kernel_rfl) rfl #[.string a0, .string (⟨#[10]⟩ : ByteArray)] rfl (by (try simp only [List.map_toArray, List.map_cons, List.map_nil]); first | done | rfl | (simp only [List.length_drop, List.length_take]; rfl)) ?_; (with_reducible refine (strings_Split.calls a0 (⟨#[10]⟩ : ByteArray) t180 _ A3.out).mono ?_); rintro e w4 ⟨v181, rfl, ho0, hb⟩; refine ⟨_, rfl, ?_⟩; have n0_ := Aside0.mk (Kd.R_lower ho0 (below_size (by repeat (first | (with_reducible first | exact HB.out | apply below_alloc | apply pw_below_drewN | apply below_drew1) | exact HB.out)))); have n1_ := Aside0.mk (below_step (by repeat (first | (with_reducible first | exact HB.out | apply below_alloc | apply pw_below_drewN | apply below_drew1) | exact HB.out)) hb); clear HB; have HO182 := n0_; have HB := n1_; clear n0_ n1_; (try clear hb); (try clear hb2); (try clear hk); (try clear hi); (try clear ho0); obtain ⟨Ao5, co5, eo5⟩ := Kd.R_slice HO182.out; subst eo5))
  go_loopg [5, 17] k (fun kq v5 v17 w' => ∃ (x5_1 : List (S46)) (x17_1 : Int), v17 = .int .i64 x17_1 ∧ Aside0 (policy_Parse.l0 kq x5_1 t180 (t180.length : Int) x17_1 = some (r1, r2, r3)) ∧ Aside0 (kq ≤ k) ∧ Aside0 (Kd.S k46 46 w' w.heap.size (fun k_ => some k_ ≠ ((.slice Ao5 t180.length co5) : Value).ownBlock) v5 x5_1) ∧ Aside0 (Kd.R Kd.string 9 w' w.heap.size (fun _ => True) (.slice Ao5 t180.length co5) t180) ∧ Aside0 (Below w.heap.size w w'))
  case atStart => exact ⟨(([] : List (S46))), (0), (by first | rfl | (simp; done) | (simp [*]; done)), H', ⟨Nat.le_refl _⟩, ⟨by first | exact Kd.S_nil _ _ _ _ _ | exact Kd.N_nil _ _ _ _ _ | exact Kd.V_nil _ _ _ _ _ | exact Kd.Q_nil _ _ _ _ _ | exact Kd.R_nil _ _ _ _ _⟩, ⟨by (with_reducible repeat (first | apply Kd.R_alloc | apply Kd.R_drewN | apply Kd.R_drew)); exact HO182.out⟩, ⟨by repeat (first | (with_reducible first | exact HB.out | apply below_alloc | apply pw_below_drewN | apply below_drew1) | exact HB.out)⟩⟩
  case round =>
   clear H'
   try clear c1
   try clear c2
   try clear c2b0
   try clear c2b1
   try clear p2
   try clear c4
   obtain ⟨x5_1, x17_1, rfl, HA, HK1, HO_5, HO_15, HB⟩ := hrel
   cases gk with
   | zero => exact absurd HA.out (by simp [policy_Parse.l0])
   | succ k1 =>
    have H := HA.out
    clear HA
    simp only [policy_Parse.l0] at H
    by_cases c6 : x17_1 < (t180.length : Int)
    ·
     rw [if_pos c6] at H
     have c6b0 : decide (x17_1 < (t180.length : Int)) = true := decide_eq_true c6
     clear c6
     by_cases c7 : 0 ≤ x17_1
     ·
      rw [if_pos c7] at H
      have c7b0 : decide (0 ≤ x17_1) = true := decide_eq_true c7
      clear c7
      by_cases c8 : x17_1 < (t180.length : Int)
      ·
       rw [if_pos c8] at H
       have c8b0 : decide (x17_1 < (t180.length : Int)) = true := decide_eq_true c8
       clear c8
       have HC9 := Aside0.mk H
       clear H
       have p183 : 0 ≤ (x17_1 : Int) := of_decide_eq_true (by first | (with_reducible assumption) | assumption)
       have q183 : x17_1 < (t180.length : Int) := of_decide_eq_true (by first | (with_reducible assumption) | assumption)
       obtain ⟨ad183, e183, hx183_0⟩ := Kd.at_string (Kd.R_reads' HO_15.out).2.2 x17_1 p183 q183
       cases e183
       replace p183 := eq_true p183
       replace q183 := eq_true q183
       go_upto_region 7 with (fail)
       go_cut [28] (fun v28 wc => ∃ (kq : Nat) (x28_8 : Bool), v28 = .bool x28_8 ∧ Aside0 (policy_Parse.j1 kq x5_1 x17_1 (rdOf ByteArray.empty t180 x17_1) t180 (t180.length : Int) x17_1 x28_8 = some (r1, r2, r3)) ∧ Aside0 (kq ≤ k1) ∧ Aside0 (Kd.S k46 46 wc w.heap.size (fun k_ => some k_ ≠ ((.slice (some ad183) t180.length co5) : Value).ownBlock) u5 x5_1) ∧ Aside0 (Kd.R Kd.string 9 wc w.heap.size (fun _ => True) (.slice (some ad183) t180.length co5) t180) ∧ Aside0 (Below w.heap.size w wc))
       case first =>
        have H := HC9.out
        clear HC9
        by_cases c10 : (rdOf ByteArray.empty t180 x17_1).toList = ([] : List UInt8)
        ·
         rw [if_pos c10] at H
         have c10b0 : ((rdOf ByteArray.empty t180 x17_1).toList == ([] : List UInt8)) = true := beq_iff_eq.mpr c10
         have c10b1 : ((rdOf ByteArray.empty t180 x17_1).toList != ([] : List UInt8)) = false := bne_eq_false_iff_eq.mpr c10
         clear c10
         (first | rw [c10b0] | (simp only [i64_w, i32_w]; rw [c10b0]) | skip)
         have H' := Aside0.mk H
         clear H
         go_wp2
         go_meet
         case rel => exact ⟨_, (true), (by first | rfl | (simp; done) | (simp [*]; done)), H', ⟨by have := HK1.out; first | omega | exact Nat.le_refl _⟩, ⟨by (with_reducible repeat (first | apply Kd.S_alloc | apply Kd.S_drewN | apply Kd.S_drew)); exact HO_5.out⟩, ⟨by (with_reducible repeat (first | apply Kd.R_alloc | apply Kd.R_drewN | apply Kd.R_drew)); exact HO_15.out⟩, ⟨by repeat (first | (with_reducible first | exact HB.out | apply below_alloc | apply pw_below_drewN | apply below_drew1) | exact HB.out)⟩⟩
        ·
         rw [if_neg c10] at H
         have c10b0 : ((rdOf ByteArray.empty t180 x17_1).toList == ([] : List UInt8)) = false := beq_eq_false_iff_ne.mpr c10
         have c10b1 : ((rdOf ByteArray.empty t180 x17_1).toList != ([] : List UInt8)) = true := bne_iff_ne.mpr c10
         (first | rw [c10b0] | (simp only [i64_w, i32_w]; rw [c10b0]) | skip)
         by_cases c11 : 0 < ((rdOf ByteArray.empty t180 x17_1).size : Int)
         ·
          rw [if_pos c11] at H
          have c11b0 : decide (0 < ((rdOf ByteArray.empty t180 x17_1).size : Int)) = true := decide_eq_true c11
          have c11b1 : decide (0 < (rdOf ByteArray.empty t180 x17_1).size) = true := decide_eq_true (by omega)
          clear c11
          have H' := Aside0.mk H
          clear H
          have p12 : 0 ≤ (0 : Int) := (by omega)
          have q12 : 0 < (rdOf ByteArray.empty t180 x17_1).size := (by have : (0 : Int) < ((rdOf ByteArray.empty t180 x17_1).size : Int) := of_decide_eq_true (by first | (with_reducible assumption) | assumption); omega)
          have hx12 : ∀ h : 0 < (rdOf ByteArray.empty t180 x17_1).size, (((rdOf ByteArray.empty t180 x17_1)[0]'h).toNat : Int) = bt (rdOf ByteArray.empty t180 x17_1) 0 := bt_at (rdOf ByteArray.empty t180 x17_1) 0
          clear p12
          have qi12 : (0 < ((rdOf ByteArray.empty t180 x17_1).size : Int)) = True := eq_true (of_decide_eq_true (by first | (with_reducible assumption) | assumption))
          replace q12 := eq_true q12
          go_wp2
          go_meet
          case rel => exact ⟨_, (((bt (rdOf ByteArray.empty t180 x17_1) 0) == 35)), (by first | rfl | (simp; done) | (simp [*]; done)), H', ⟨by have := HK1.out; first | omega | exact Nat.le_refl _⟩, ⟨by (with_reducible repeat (first | apply Kd.S_alloc | apply Kd.S_drewN | apply Kd.S_drew)); exact HO_5.out⟩, ⟨by (with_reducible repeat (first | apply Kd.R_alloc | apply Kd.R_drewN | apply Kd.R_drew)); exact HO_15.out⟩, ⟨by repeat (first | (with_reducible first | exact HB.out | apply below_alloc | apply pw_below_drewN | apply below_drew1) | exact HB.out)⟩⟩
         ·
          rw [if_neg c11] at H
          exact absurd H (by simp)
       case rest =>
        clear HC9
        try clear c1
        try clear p1
        try clear q1
        try clear hx1
        try clear qi1
        try clear c2
        try clear c2b0
        try clear c2b1
        try clear p2
        try clear c4
        try clear c6
        try clear c6b0
        try clear c7
        try clear c7b0
        try clear c8
        try clear c8b0
        try clear c10
        try clear c10b0
        try clear c10b1
        try clear c11
        try clear c11b0
        try clear c11b1
        try clear p12
        try clear q12
        try clear hx12
        try clear qi12
        try clear hx183_0
        try clear p12
        try clear p183
        try clear p2
        try clear q12
        try clear q183
        obtain ⟨kq, x28_8, rfl, HA, HJ8, HO_5, HO_15, HB⟩ := hcut
        cases kq with
        | zero => exact absurd HA.out (by simp [policy_Parse.j1])
        | succ kj8 =>
         have H := HA.out
         clear HA
         simp only [policy_Parse.j1] at H
         by_cases c13 : x28_8 = true
         ·
          subst c13
          have H1 : (policy_Parse.l0 kj8 x5_1 t180 (t180.length : Int) (wrap64 (x17_1 + 1))) = some (r1, r2, r3) := by rw [if_pos rfl] at H; exact H
          clear H
          have H := H1
          clear H1
          have H' := Aside0.mk H
          clear H
          go_wp2
          go_roundg kj8
          case measure => have := HK1.out; have := HJ8.out; omega
          case rel => exact ⟨(x5_1), (wrap64 (x17_1 + 1)), (by first | rfl | (simp; done) | (simp [*]; done)), H', ⟨by have := HK1.out; have := HJ8.out; omega⟩, ⟨by (with_reducible repeat (first | apply Kd.S_alloc | apply Kd.S_drewN | apply Kd.S_drew)); exact HO_5.out⟩, ⟨by (with_reducible repeat (first | apply Kd.R_alloc | apply Kd.R_drewN | apply Kd.R_drew)); exact HO_15.out⟩, ⟨by repeat (first | (with_reducible first | exact HB.out | apply below_alloc | apply pw_below_drewN | apply below_drew1) | exact HB.out)⟩⟩
         ·
          replace c13 := Bool.eq_false_iff.mpr c13
          subst c13
          have H1 : (if (x5_1.length : Int) ≥ 32 then (some (([] : List (S46)), 7, x17_1)) else ((policy_rule.f kj8 (rdOf ByteArray.empty t180 x17_1)).bind fun bt184 => (if bt184.2.2.2.2.2 = true then ((policy_Right.f kj8 bt184.1 bt184.2.1 bt184.2.2.1 bt184.2.2.2.1 bt184.2.2.2.2.1).bind fun t195 => (if t195 = 0 then (if x5_1.length < 1759218604441 then (policy_Parse.l0 kj8 (x5_1 ++ [(⟨bt184.1, bt184.2.1, bt184.2.2.1, bt184.2.2.2.1, bt184.2.2.2.2.1⟩ : S46)]) t180 (t180.length : Int) (wrap64 (x17_1 + 1))) else (none)) else (some (([] : List (S46)), t195, x17_1)))) else (some (([] : List (S46)), 110, x17_1))))) = some (r1, r2, r3) := by rw [if_neg (show ¬ (false = true) by decide)] at H; exact H
          clear H
          have H := H1
          clear H1
          by_cases c14 : (x5_1.length : Int) ≥ 32
          ·
           rw [if_pos c14] at H
           have c14b0 : decide (32 ≤ (x5_1.length : Int)) = true := decide_eq_true c14
           have c14b1 : decide (32 ≤ x5_1.length) = true := decide_eq_true (by omega)
           clear c14
           simp only [Option.some.injEq, Prod.mk.injEq] at H
           obtain ⟨rfl, rfl, rfl⟩ := H
           obtain ⟨Ao15, co15, eo15⟩ := Kd.S_slice HO_5.out
           subst eo15
           go_wp2
           go_ret3
           exact ⟨_, by first | rfl | (simp [errW_none, errW_some] <;> rfl) | (simp [*, errW_none, errW_some] <;> rfl), by first | exact Kd.S_nil _ _ _ _ _ | exact Kd.N_nil _ _ _ _ _ | exact Kd.V_nil _ _ _ _ _ | exact Kd.Q_nil _ _ _ _ _ | exact Kd.R_nil _ _ _ _ _, by repeat (first | (with_reducible first | exact HB.out | apply below_alloc | apply pw_below_drewN | apply below_drew1) | exact HB.out)⟩
          ·
           rw [if_neg c14] at H
           have c14b0 : decide (32 ≤ (x5_1.length : Int)) = false := decide_eq_false c14
           have c14b1 : decide (32 ≤ x5_1.length) = false := decide_eq_false (by omega)
           clear c14
           replace H := Option.bind_eq_some_iff.mp H
           obtain ⟨⟨t184, t185, t186, t187, t190, t193⟩, A160, H⟩ := H
           replace H : (if t193 = true then ((policy_Right.f kj8 t184 t185 t186 t187 t190).bind fun t195 => (if t195 = 0 then (if x5_1.length < 1759218604441 then (policy_Parse.l0 kj8 (x5_1 ++ [(⟨t184, t185, t186, t187, t190⟩ : S46)]) t180 (t180.length : Int) (wrap64 (x17_1 + 1))) else (none)) else (some (([] : List (S46)), t195, x17_1)))) else (some (([] : List (S46)), 110, x17_1))) = some (r1, r2, r3) := H
           have A16 := Aside0.mk A160
           clear A160
           by_cases c17 : t193 = true
           ·
            subst c17
            have H1 : ((policy_Right.f kj8 t184 t185 t186 t187 t190).bind fun t195 => (if t195 = 0 then (if x5_1.length < 1759218604441 then (policy_Parse.l0 kj8 (x5_1 ++ [(⟨t184, t185, t186, t187, t190⟩ : S46)]) t180 (t180.length : Int) (wrap64 (x17_1 + 1))) else (none)) else (some (([] : List (S46)), t195, x17_1)))) = some (r1, r2, r3) := by rw [if_pos rfl] at H; exact H
            clear H
            have H := H1
            clear H1
            replace H := Option.bind_eq_some_iff.mp H
            obtain ⟨t195, A180, H⟩ := H
            replace H : (if t195 = 0 then (if x5_1.length < 1759218604441 then (policy_Parse.l0 kj8 (x5_1 ++ [(⟨t184, t185, t186, t187, t190⟩ : S46)]) t180 (t180.length : Int) (wrap64 (x17_1 + 1))) else (none)) else (some (([] : List (S46)), t195, x17_1))) = some (r1, r2, r3) := H
            have A18 := Aside0.mk A180
            clear A180
            by_cases c19 : t195 = 0
            ·
             rw [if_pos c19] at H
             have c19b0 : (t195 == 0) = true := beq_iff_eq.mpr c19
             have c19b1 : (t195 != 0) = false := bne_eq_false_iff_eq.mpr c19
             clear c19
             by_cases c20 : x5_1.length < 1759218604441
             ·
              rw [if_pos c20] at H
              have LMc20 := Aside0.mk c20
              clear c20
              obtain ⟨y196, hy196⟩ : ∃ y_ : List (S46), y_ = (x5_1 ++ [(⟨t184, t185, t186, t187, t190⟩ : S46)]) := ⟨_, rfl⟩
              replace H : (policy_Parse.l0 kj8 y196 t180 (t180.length : Int) (wrap64 (x17_1 + 1))) = some (r1, r2, r3) := by first | (rw [hy196]; with_reducible exact H) | (have H2_ := (Option.bind_some _ _).symm.trans H; rw [hy196]; with_reducible exact H2_) | (have H2_ := (Option.bind_some _ _).symm.trans H; with_reducible exact H2_) | with_reducible exact H | (rw [hy196]; exact H) | exact H
              have Ny196 := Aside0.mk hy196
              clear hy196
              have H' := Aside0.mk H
              clear H
              obtain ⟨Ao21, co21, eo21⟩ := Kd.S_slice HO_5.out
              subst eo21
              go_wp2_with (first | ((with_reducible refine gate_callee (f := 42) rfl ?_); refine goesL_ (some 35) rfl rfl Tryz.func42 (by kernel_rfl) rfl #[.string (rdOf ByteArray.empty t180 x17_1)] rfl (by (try simp only [List.map_toArray, List.map_cons, List.map_nil]); first | done | rfl | (simp only [List.length_drop, List.length_take]; rfl)) ?_; (with_reducible refine (policy_rule.calls kj8 (rdOf ByteArray.empty t180 x17_1) t184 t185 t186 t187 t190 true _ A16.out).mono ?_); rintro e w22 ⟨v188, v191, rfl, ho0, ho1, hb⟩; refine ⟨_, rfl, ?_⟩; have n0_ := Aside0.mk (Kd.S_mono (Kd.S_told (Kd.S_told (Kd.S_old (by (with_reducible repeat (first | apply Kd.S_alloc | apply Kd.S_drewN | apply Kd.S_drew)); exact HO_5.out) hb) (Kd.R_base ho0)) (Kd.R_base ho1)) (fun _ h_ => h_.1)); have n1_ := Aside0.mk (Kd.R_elder' (by (with_reducible repeat (first | apply Kd.R_alloc | apply Kd.R_drewN | apply Kd.R_drew)); exact HO_15.out) (Kd.R_base ho1) hb); have n2_ := Aside0.mk (Kd.R_lower ho0 (below_size (by repeat (first | (with_reducible first | exact HB.out | apply below_alloc | apply pw_below_drewN | apply below_drew1) | exact HB.out)))); have n3_ := Aside0.mk (Kd.R_lower (Kd.R_new' ho1 (Kd.R_lt (by (with_reducible repeat (first | apply Kd.R_alloc | apply Kd.R_drewN | apply Kd.R_drew)); exact HO_15.out))) (below_size (by repeat (first | (with_reducible first | exact HB.out | apply below_alloc | apply pw_below_drewN | apply below_drew1) | exact HB.out)))); have n4_ := Aside0.mk (below_step (by repeat (first | (with_reducible first | exact HB.out | apply below_alloc | apply pw_below_drewN | apply below_drew1) | exact HB.out)) hb); clear HO_5; clear HO_15; clear HB; have HO_5 := n0_; have HO_15 := n1_; have HO189 := n2_; have HO192 := n3_; have HB := n4_; clear n0_ n1_ n2_ n3_ n4_; (try clear hb); (try clear hb2); (try clear hk); (try clear hi); (try clear ho0); (try clear ho1)) | ((with_reducible refine gate_dst (N := 8) rfl ?_); refine box_event ?hg (N := 8) ?hd (cs := #[.bool false, .int .i64 0, .string (⟨#[]⟩ : ByteArray), .slice none 0 0, .slice none 0 0]) (t := 46) ?hr ?_; (case hd => rfl); (case hg => rfl); (case hr => first | (go_simp; done) | (go_simp; rfl)); intro gb194 hg w23 hbox hb; have n0_ := Aside0.mk (Kd.S_below (Kd.S_elderB (by (with_reducible repeat (first | apply Kd.S_alloc | apply Kd.S_drewN | apply Kd.S_drew)); exact HO_5.out) gb194 (Nat.le_of_eq hg.symm)) hb); have n1_ := Aside0.mk (Kd.R_below (by (with_reducible repeat (first | apply Kd.R_alloc | apply Kd.R_drewN | apply Kd.R_drew)); exact HO_15.out) hb); have n2_ := Aside0.mk (Kd.R_below (by (with_reducible repeat (first | apply Kd.R_alloc | apply Kd.R_drewN | apply Kd.R_drew)); exact HO189.out) hb); have n3_ := Aside0.mk (Kd.R_below (by (with_reducible repeat (first | apply Kd.R_alloc | apply Kd.R_drewN | apply Kd.R_drew)); exact HO192.out) hb); have n4_ := Aside0.mk (below_step (by repeat (first | (with_reducible first | exact HB.out | apply below_alloc | apply pw_below_drewN | apply below_drew1) | exact HB.out)) hb); have n5_ := Aside0.mk (hbox); have n6_ := Aside0.mk ((by rw [hg]; exact (below_size (by repeat (first | (with_reducible first | exact HB.out | apply below_alloc | apply pw_below_drewN | apply below_drew1) | exact HB.out))) : w.heap.size ≤ gb194)); have n7_ := Aside0.mk ((by rw [hg]; exact (below_size (by repeat (first | (with_reducible first | exact HB.out | apply below_alloc | apply pw_below_drewN | apply below_drew1) | exact HB.out))) : w.heap.size ≤ gb194)); clear HO_5; clear HO_15; clear HO189; clear HO192; clear HB; have HO_5 := n0_; have HO_15 := n1_; have HO189 := n2_; have HO192 := n3_; have HB := n4_; have BK194 := n5_; have GW194 := n6_; have GE194 := n7_; clear n0_ n1_ n2_ n3_ n4_ n5_ n6_ n7_; clear hb hbox hg; have hcz24_0 : w23.cell? ⟨gb194, 0, none⟩ = some (.bool false) := (blk_cell BK194.out 0).trans rfl; have hcz24_1 : w23.cell? ⟨gb194, 1, none⟩ = some (.int .i64 0) := (blk_cell BK194.out 1).trans rfl; have hcz24_2 : w23.cell? ⟨gb194, 2, none⟩ = some (.string (⟨#[]⟩ : ByteArray)) := (blk_cell BK194.out 2).trans rfl; have hcz24_3 : w23.cell? ⟨gb194, 3, none⟩ = some (.slice none 0 0) := (blk_cell BK194.out 3).trans rfl; have hcz24_4 : w23.cell? ⟨gb194, 4, none⟩ = some (.slice none 0 0) := (blk_cell BK194.out 4).trans rfl; have hfz24_0 := blk_frozen BK194.out 0; have hfz24_1 := blk_frozen BK194.out 1; have hfz24_2 := blk_frozen BK194.out 2; have hfz24_3 := blk_frozen BK194.out 3; have hfz24_4 := blk_frozen BK194.out 4; obtain ⟨Ao25, co25, eo25⟩ := Kd.R_slice HO189.out; subst eo25; obtain ⟨Ao26, co26, eo26⟩ := Kd.R_slice HO192.out; subst eo26) | ((with_reducible refine gate_callee (f := 22) rfl ?_); refine goesL_ (some 42) rfl rfl Tryz.func22 (by kernel_rfl) rfl #[.agg #[.bool t184, .int .i64 t185, .string t186, .slice Ao25 t187.length co25, .slice Ao26 t190.length co26]] rfl (by (try simp only [List.map_toArray, List.map_cons, List.map_nil]); first | done | rfl | (simp only [List.length_drop, List.length_take]; rfl)) ?_; (with_reducible refine (policy_Right.calls kj8 t184 t185 t186 _ _ t187 _ _ t190 t195 _ ?side1 ?side2 ?side3 ?side4 A18.out).mono ?_); (case side1 => refine (Kd.R_reads' (e := 33) (base := w.heap.size) (ok := fun k_ => True) (n := t187.length) (c := co25) ?_).2.2; exact (by (with_reducible repeat (first | apply Kd.R_alloc | apply Kd.R_drewN | apply Kd.R_drew)); exact (Kd.R_mono (Kd.R_far (p := ⟨gb194, 4, none⟩) (Kd.R_far (p := ⟨gb194, 3, none⟩) (Kd.R_far (p := ⟨gb194, 2, none⟩) (Kd.R_far (p := ⟨gb194, 1, none⟩) (Kd.R_far (p := ⟨gb194, 0, none⟩) (Kd.R_types HO189.out BK194.out (by decide)) (fun _ hk => hk.2) (.bool t184)) (fun _ hk => hk.2) (.int .i64 t185)) (fun _ hk => hk.2) (.string t186)) (fun _ hk => hk.2) (.slice Ao25 t187.length co25)) (fun _ hk => hk.2) (.slice Ao26 t190.length co26)) (fun _ h_ => h_.1)))); (case side2 => exact (Kd.R_reads' HO189.out).2.1); (case side3 => refine (Kd.R_reads' (e := 9) (base := w.heap.size) (ok := fun k_ => (True ∧ some k_ ≠ (.slice (some ad183) t180.length co5 : Value).ownBlock)) (n := t190.length) (c := co26) ?_).2.2; exact (by (with_reducible repeat (first | apply Kd.R_alloc | apply Kd.R_drewN | apply Kd.R_drew)); exact (Kd.R_mono (Kd.R_far (p := ⟨gb194, 4, none⟩) (Kd.R_far (p := ⟨gb194, 3, none⟩) (Kd.R_far (p := ⟨gb194, 2, none⟩) (Kd.R_far (p := ⟨gb194, 1, none⟩) (Kd.R_far (p := ⟨gb194, 0, none⟩) (Kd.R_types HO192.out BK194.out (by decide)) (fun _ hk => hk.2) (.bool t184)) (fun _ hk => hk.2) (.int .i64 t185)) (fun _ hk => hk.2) (.string t186)) (fun _ hk => hk.2) (.slice Ao25 t187.length co25)) (fun _ hk => hk.2) (.slice Ao26 t190.length co26)) (fun _ h_ => h_.1)))); (case side4 => exact (Kd.R_reads' HO192.out).2.1); rintro e w27 ⟨rfl, hb⟩; refine ⟨_, rfl, ?_⟩; have n0_ := Aside0.mk (Kd.S_below (by (with_reducible repeat (first | apply Kd.S_alloc | apply Kd.S_drewN | apply Kd.S_drew)); exact (Kd.S_mono (Kd.S_far (p := ⟨gb194, 4, none⟩) (Kd.S_far (p := ⟨gb194, 3, none⟩) (Kd.S_far (p := ⟨gb194, 2, none⟩) (Kd.S_far (p := ⟨gb194, 1, none⟩) (Kd.S_far (p := ⟨gb194, 0, none⟩) (Kd.S_mono HO_5.out (fun k_ hk => (⟨hk, hk.2⟩ : _ ∧ k_ ≠ gb194))) (fun _ hk => hk.2) (.bool t184)) (fun _ hk => hk.2) (.int .i64 t185)) (fun _ hk => hk.2) (.string t186)) (fun _ hk => hk.2) (.slice Ao25 t187.length co25)) (fun _ hk => hk.2) (.slice Ao26 t190.length co26)) (fun _ h_ => h_.1))) hb); have n1_ := Aside0.mk (Kd.R_below (by (with_reducible repeat (first | apply Kd.R_alloc | apply Kd.R_drewN | apply Kd.R_drew)); exact (Kd.R_mono (Kd.R_far (p := ⟨gb194, 4, none⟩) (Kd.R_far (p := ⟨gb194, 3, none⟩) (Kd.R_far (p := ⟨gb194, 2, none⟩) (Kd.R_far (p := ⟨gb194, 1, none⟩) (Kd.R_far (p := ⟨gb194, 0, none⟩) (Kd.R_types HO_15.out BK194.out (by decide)) (fun _ hk => hk.2) (.bool t184)) (fun _ hk => hk.2) (.int .i64 t185)) (fun _ hk => hk.2) (.string t186)) (fun _ hk => hk.2) (.slice Ao25 t187.length co25)) (fun _ hk => hk.2) (.slice Ao26 t190.length co26)) (fun _ h_ => h_.1))) hb); have n2_ := Aside0.mk (Kd.R_below (by (with_reducible repeat (first | apply Kd.R_alloc | apply Kd.R_drewN | apply Kd.R_drew)); exact (Kd.R_mono (Kd.R_far (p := ⟨gb194, 4, none⟩) (Kd.R_far (p := ⟨gb194, 3, none⟩) (Kd.R_far (p := ⟨gb194, 2, none⟩) (Kd.R_far (p := ⟨gb194, 1, none⟩) (Kd.R_far (p := ⟨gb194, 0, none⟩) (Kd.R_types HO189.out BK194.out (by decide)) (fun _ hk => hk.2) (.bool t184)) (fun _ hk => hk.2) (.int .i64 t185)) (fun _ hk => hk.2) (.string t186)) (fun _ hk => hk.2) (.slice Ao25 t187.length co25)) (fun _ hk => hk.2) (.slice Ao26 t190.length co26)) (fun _ h_ => h_.1))) hb); have n3_ := Aside0.mk (Kd.R_below (by (with_reducible repeat (first | apply Kd.R_alloc | apply Kd.R_drewN | apply Kd.R_drew)); exact (Kd.R_mono (Kd.R_far (p := ⟨gb194, 4, none⟩) (Kd.R_far (p := ⟨gb194, 3, none⟩) (Kd.R_far (p := ⟨gb194, 2, none⟩) (Kd.R_far (p := ⟨gb194, 1, none⟩) (Kd.R_far (p := ⟨gb194, 0, none⟩) (Kd.R_types HO192.out BK194.out (by decide)) (fun _ hk => hk.2) (.bool t184)) (fun _ hk => hk.2) (.int .i64 t185)) (fun _ hk => hk.2) (.string t186)) (fun _ hk => hk.2) (.slice Ao25 t187.length co25)) (fun _ hk => hk.2) (.slice Ao26 t190.length co26)) (fun _ h_ => h_.1))) hb); have n4_ := Aside0.mk (blk_below (g := gb194) (o := .cells #[.bool t184, .int .i64 t185, .string t186, .slice Ao25 t187.length co25, .slice Ao26 t190.length co26] 46 (0, 0)) (by (with_reducible repeat (first | refine blk_drewN ?_ _ | refine blk_drew ?_ | refine blk_alloc ?_ _)); refine blk_put (cs := #[.bool t184, .int .i64 t185, .string t186, .slice Ao25 t187.length co25, .slice none 0 0]) ?_ 4 _ rfl; (with_reducible repeat (first | refine blk_drewN ?_ _ | refine blk_drew ?_ | refine blk_alloc ?_ _)); refine blk_put (cs := #[.bool t184, .int .i64 t185, .string t186, .slice none 0 0, .slice none 0 0]) ?_ 3 _ rfl; (with_reducible repeat (first | refine blk_drewN ?_ _ | refine blk_drew ?_ | refine blk_alloc ?_ _)); refine blk_put (cs := #[.bool t184, .int .i64 t185, .string (⟨#[]⟩ : ByteArray), .slice none 0 0, .slice none 0 0]) ?_ 2 _ rfl; (with_reducible repeat (first | refine blk_drewN ?_ _ | refine blk_drew ?_ | refine blk_alloc ?_ _)); refine blk_put (cs := #[.bool t184, .int .i64 0, .string (⟨#[]⟩ : ByteArray), .slice none 0 0, .slice none 0 0]) ?_ 1 _ rfl; (with_reducible repeat (first | refine blk_drewN ?_ _ | refine blk_drew ?_ | refine blk_alloc ?_ _)); refine blk_put (cs := #[.bool false, .int .i64 0, .string (⟨#[]⟩ : ByteArray), .slice none 0 0, .slice none 0 0]) ?_ 0 _ rfl; (with_reducible repeat (first | refine blk_drewN ?_ _ | refine blk_drew ?_ | refine blk_alloc ?_ _)); exact BK194.out) hb); have n5_ := Aside0.mk (below_step (by repeat (first | (with_reducible first | exact HB.out | apply below_alloc | apply pw_below_drewN | apply below_drew1 | refine below_set ?_ GE194.out) | exact HB.out)) hb); clear HO_5; clear HO_15; clear HO189; clear HO192; clear BK194; clear HB; have HO_5 := n0_; have HO_15 := n1_; have HO189 := n2_; have HO192 := n3_; have BK194 := n4_; have HB := n5_; clear n0_ n1_ n2_ n3_ n4_ n5_; (try clear hb); (try clear hb2); (try clear hk); (try clear hi); have hcz28_0 : w27.cell? ⟨gb194, 0, none⟩ = some (.bool t184) := (blk_cell BK194.out 0).trans rfl; have hcz28_1 : w27.cell? ⟨gb194, 1, none⟩ = some (.int .i64 t185) := (blk_cell BK194.out 1).trans rfl; have hcz28_2 : w27.cell? ⟨gb194, 2, none⟩ = some (.string t186) := (blk_cell BK194.out 2).trans rfl; have hcz28_3 : w27.cell? ⟨gb194, 3, none⟩ = some (.slice Ao25 t187.length co25) := (blk_cell BK194.out 3).trans rfl; have hcz28_4 : w27.cell? ⟨gb194, 4, none⟩ = some (.slice Ao26 t190.length co26) := (blk_cell BK194.out 4).trans rfl; have hfz28_0 := blk_frozen BK194.out 0; have hfz28_1 := blk_frozen BK194.out 1; have hfz28_2 := blk_frozen BK194.out 2; have hfz28_3 := blk_frozen BK194.out 3; have hfz28_4 := blk_frozen BK194.out 4) | ((with_reducible refine gate_builtin (b := .append) (xs := #[.tmp 47, .tmp 49]) rfl ?_); at_builtin; refine Kd.S_append k46 (w0 := w) w.heap.size rfl (.tmp 47) (.tmp 49) 22 46 (.agg #[(.bool false), (.int .i64 0), (.string ⟨#[]⟩), (.slice none 0 0), (.slice none 0 0)]) 80 rfl Tryz.underlying22 info46 rfl (by decide) (by omega) (.slice Ao21 x5_1.length co21) x5_1 (⟨t184, t185, t186, t187, t190⟩ : S46) [.bool t184, .int .i64 t185, .string t186, .slice Ao25 t187.length co25, .slice Ao26 t190.length co26] (fun k_ => some k_ ≠ (.slice (some ad183) t180.length co5 : Value).ownBlock ∧ k_ ≠ gb194) (fun k_ => some k_ = (.slice Ao25 t187.length co25 : Value).ownBlock ∨ some k_ = (.slice Ao26 t190.length co26 : Value).ownBlock) rfl rfl ?aP (fun k_ hk_ => hk_.elim (fun h_ => ((Kd.R_mono (ok' := fun k_ => ((fun k_ => some k_ ≠ (.slice (some ad183) t180.length co5 : Value).ownBlock ∧ k_ ≠ gb194)) k_ ∧ some k_ ≠ (.slice Ao21 x5_1.length co21 : Value).ownBlock) (Kd.R_types (Kd.R_apart' (Kd.R_apart' (HO189.out) (Kd.R_typed HO_15.out) (by decide)) (Kd.S_typed HO_5.out) (by decide)) BK194.out (by decide)) (fun k_ hk => ⟨⟨hk.1.1.2, hk.2⟩, hk.1.2⟩))).1 k_ h_.symm) (fun h_ => ((Kd.R_mono (ok' := fun k_ => ((fun k_ => some k_ ≠ (.slice (some ad183) t180.length co5 : Value).ownBlock ∧ k_ ≠ gb194)) k_ ∧ some k_ ≠ (.slice Ao21 x5_1.length co21 : Value).ownBlock) (Kd.R_types (Kd.R_apart' (HO192.out) (Kd.S_typed HO_5.out) (by decide)) BK194.out (by decide)) (fun k_ hk => ⟨⟨hk.1.1.2, hk.2⟩, hk.1.2⟩))).1 k_ h_.symm)) ?aF ?aO ?aB ?aS ?aL ?_; (case aP => exact k46_mkM _ _ _ (⟨t184, t185, t186, t187, t190⟩ : S46) (Kd.R_mono (Kd.R_tight rfl (Kd.R_mono (ok' := fun k_ => ((fun k_ => some k_ ≠ (.slice (some ad183) t180.length co5 : Value).ownBlock ∧ k_ ≠ gb194)) k_ ∧ some k_ ≠ (.slice Ao21 x5_1.length co21 : Value).ownBlock) (Kd.R_types (Kd.R_apart' (Kd.R_apart' (HO189.out) (Kd.R_typed HO_15.out) (by decide)) (Kd.S_typed HO_5.out) (by decide)) BK194.out (by decide)) (fun k_ hk => ⟨⟨hk.1.1.2, hk.2⟩, hk.1.2⟩))) (fun _ h_ => Or.inl h_)) (Kd.R_mono (Kd.R_tight rfl (Kd.R_mono (ok' := fun k_ => ((fun k_ => some k_ ≠ (.slice (some ad183) t180.length co5 : Value).ownBlock ∧ k_ ≠ gb194)) k_ ∧ some k_ ≠ (.slice Ao21 x5_1.length co21 : Value).ownBlock) (Kd.R_types (Kd.R_apart' (HO192.out) (Kd.S_typed HO_5.out) (by decide)) BK194.out (by decide)) (fun k_ hk => ⟨⟨hk.1.1.2, hk.2⟩, hk.1.2⟩))) (fun _ h_ => Or.inr (h_)))); (case aB => exact (by repeat (first | (with_reducible first | exact HB.out | apply below_alloc | apply pw_below_drewN | apply below_drew1 | refine below_set ?_ GE194.out) | exact HB.out))); (case aF => exact (fun k_ hk => ⟨Kd.fresh' (Kd.R_lt (by (with_reducible repeat (first | apply Kd.R_alloc | apply Kd.R_drewN | apply Kd.R_drew)); exact HO_15.out)) k_ hk, Kd.freshB (g := gb194) (o := .cells #[.bool t184, .int .i64 t185, .string t186, .slice Ao25 t187.length co25, .slice Ao26 t190.length co26] 46 (0, 0)) (by (with_reducible repeat (first | refine blk_drewN ?_ _ | refine blk_drew ?_ | refine blk_alloc ?_ _)); exact BK194.out) k_ hk⟩)); (case aO => exact (by (with_reducible repeat (first | apply Kd.S_alloc | apply Kd.S_drewN | apply Kd.S_drew)); exact Kd.S_mono HO_5.out (fun k_ hk => ⟨⟨hk.1.1.1, hk.2⟩, fun e_ => e_.elim (fun h_ => hk.1.1.2 h_) (fun h_ => hk.1.2 h_)⟩))); (case aS => exact (below_size (by repeat (first | (with_reducible first | exact HB.out | apply below_alloc | apply pw_below_drewN | apply below_drew1 | refine below_set ?_ GE194.out) | exact HB.out)))); (case aL => have := LMc20.out; omega); intro v197 w29 ho hb hg hat; rw [← Ny196.out] at ho; have n0_ := Aside0.mk (Kd.R_over' (by (with_reducible repeat (first | apply Kd.R_alloc | apply Kd.R_drewN | apply Kd.R_drew)); exact HO_15.out) (Kd.S_typed (by (with_reducible repeat (first | apply Kd.S_alloc | apply Kd.S_drewN | apply Kd.S_drew)); exact HO_5.out)) (by decide) hg); have n1_ := Aside0.mk (blk_grown (g := gb194) (o := .cells #[.bool t184, .int .i64 t185, .string t186, .slice Ao25 t187.length co25, .slice Ao26 t190.length co26] 46 (0, 0)) (by (with_reducible repeat (first | refine blk_drewN ?_ _ | refine blk_drew ?_ | refine blk_alloc ?_ _)); exact BK194.out) hg (Kd.S_away HO_5.out (fun _ hk => hk.2))); have n2_ := Aside0.mk (hb); have n3_ := Aside0.mk (ho); clear HO_15; clear BK194; clear HB; clear HO_5; clear HO189; clear HO192; have HO_15 := n0_; have BK194 := n1_; have HB := n2_; have HO198 := n3_; clear n0_ n1_ n2_ n3_; clear ho hb hg hat))
              go_roundg kj8
              case measure => have := HK1.out; have := HJ8.out; omega
              case rel => exact ⟨(y196), (wrap64 (x17_1 + 1)), (by first | rfl | (simp; done) | (simp [*]; done)), H', ⟨by have := HK1.out; have := HJ8.out; omega⟩, ⟨by (with_reducible repeat (first | apply Kd.S_alloc | apply Kd.S_drewN | apply Kd.S_drew)); exact Kd.S_mono HO198.out (fun _ hk => hk.1)⟩, ⟨by (with_reducible repeat (first | apply Kd.R_alloc | apply Kd.R_drewN | apply Kd.R_drew)); exact Kd.R_mono HO_15.out (fun _ hk => trivial)⟩, ⟨by repeat (first | (with_reducible first | exact HB.out | apply below_alloc | apply pw_below_drewN | apply below_drew1 | refine below_set ?_ GE194.out) | exact HB.out)⟩⟩
             ·
              rw [if_neg c20] at H
              exact absurd H (by simp)
            ·
             rw [if_neg c19] at H
             have c19b0 : (t195 == 0) = false := beq_eq_false_iff_ne.mpr c19
             have c19b1 : (t195 != 0) = true := bne_iff_ne.mpr c19
             simp only [Option.some.injEq, Prod.mk.injEq] at H
             obtain ⟨rfl, rfl, rfl⟩ := H
             obtain ⟨Ao30, co30, eo30⟩ := Kd.S_slice HO_5.out
             subst eo30
             go_wp2_with (first | ((with_reducible refine gate_callee (f := 42) rfl ?_); refine goesL_ (some 35) rfl rfl Tryz.func42 (by kernel_rfl) rfl #[.string (rdOf ByteArray.empty t180 x17_1)] rfl (by (try simp only [List.map_toArray, List.map_cons, List.map_nil]); first | done | rfl | (simp only [List.length_drop, List.length_take]; rfl)) ?_; (with_reducible refine (policy_rule.calls kj8 (rdOf ByteArray.empty t180 x17_1) t184 t185 t186 t187 t190 true _ A16.out).mono ?_); rintro e w31 ⟨v188, v191, rfl, ho0, ho1, hb⟩; refine ⟨_, rfl, ?_⟩; have n0_ := Aside0.mk (Kd.S_mono (Kd.S_told (Kd.S_told (Kd.S_old (by (with_reducible repeat (first | apply Kd.S_alloc | apply Kd.S_drewN | apply Kd.S_drew)); exact HO_5.out) hb) (Kd.R_base ho0)) (Kd.R_base ho1)) (fun _ h_ => h_.1)); have n1_ := Aside0.mk (Kd.R_elder' (by (with_reducible repeat (first | apply Kd.R_alloc | apply Kd.R_drewN | apply Kd.R_drew)); exact HO_15.out) (Kd.R_base ho1) hb); have n2_ := Aside0.mk (Kd.R_lower ho0 (below_size (by repeat (first | (with_reducible first | exact HB.out | apply below_alloc | apply pw_below_drewN | apply below_drew1) | exact HB.out)))); have n3_ := Aside0.mk (Kd.R_lower (Kd.R_new' ho1 (Kd.R_lt (by (with_reducible repeat (first | apply Kd.R_alloc | apply Kd.R_drewN | apply Kd.R_drew)); exact HO_15.out))) (below_size (by repeat (first | (with_reducible first | exact HB.out | apply below_alloc | apply pw_below_drewN | apply below_drew1) | exact HB.out)))); have n4_ := Aside0.mk (below_step (by repeat (first | (with_reducible first | exact HB.out | apply below_alloc | apply pw_below_drewN | apply below_drew1) | exact HB.out)) hb); clear HO_5; clear HO_15; clear HB; have HO_5 := n0_; have HO_15 := n1_; have HO189 := n2_; have HO192 := n3_; have HB := n4_; clear n0_ n1_ n2_ n3_ n4_; (try clear hb); (try clear hb2); (try clear hk); (try clear hi); (try clear ho0); (try clear ho1)) | ((with_reducible refine gate_dst (N := 8) rfl ?_); refine box_event ?hg (N := 8) ?hd (cs := #[.bool false, .int .i64 0, .string (⟨#[]⟩ : ByteArray), .slice none 0 0, .slice none 0 0]) (t := 46) ?hr ?_; (case hd => rfl); (case hg => rfl); (case hr => first | (go_simp; done) | (go_simp; rfl)); intro gb194 hg w32 hbox hb; have n0_ := Aside0.mk (Kd.S_below (Kd.S_elderB (by (with_reducible repeat (first | apply Kd.S_alloc | apply Kd.S_drewN | apply Kd.S_drew)); exact HO_5.out) gb194 (Nat.le_of_eq hg.symm)) hb); have n1_ := Aside0.mk (Kd.R_below (by (with_reducible repeat (first | apply Kd.R_alloc | apply Kd.R_drewN | apply Kd.R_drew)); exact HO_15.out) hb); have n2_ := Aside0.mk (Kd.R_below (by (with_reducible repeat (first | apply Kd.R_alloc | apply Kd.R_drewN | apply Kd.R_drew)); exact HO189.out) hb); have n3_ := Aside0.mk (Kd.R_below (by (with_reducible repeat (first | apply Kd.R_alloc | apply Kd.R_drewN | apply Kd.R_drew)); exact HO192.out) hb); have n4_ := Aside0.mk (below_step (by repeat (first | (with_reducible first | exact HB.out | apply below_alloc | apply pw_below_drewN | apply below_drew1) | exact HB.out)) hb); have n5_ := Aside0.mk (hbox); have n6_ := Aside0.mk ((by rw [hg]; exact (below_size (by repeat (first | (with_reducible first | exact HB.out | apply below_alloc | apply pw_below_drewN | apply below_drew1) | exact HB.out))) : w.heap.size ≤ gb194)); have n7_ := Aside0.mk ((by rw [hg]; exact (below_size (by repeat (first | (with_reducible first | exact HB.out | apply below_alloc | apply pw_below_drewN | apply below_drew1) | exact HB.out))) : w.heap.size ≤ gb194)); clear HO_5; clear HO_15; clear HO189; clear HO192; clear HB; have HO_5 := n0_; have HO_15 := n1_; have HO189 := n2_; have HO192 := n3_; have HB := n4_; have BK194 := n5_; have GW194 := n6_; have GE194 := n7_; clear n0_ n1_ n2_ n3_ n4_ n5_ n6_ n7_; clear hb hbox hg; have hcz33_0 : w32.cell? ⟨gb194, 0, none⟩ = some (.bool false) := (blk_cell BK194.out 0).trans rfl; have hcz33_1 : w32.cell? ⟨gb194, 1, none⟩ = some (.int .i64 0) := (blk_cell BK194.out 1).trans rfl; have hcz33_2 : w32.cell? ⟨gb194, 2, none⟩ = some (.string (⟨#[]⟩ : ByteArray)) := (blk_cell BK194.out 2).trans rfl; have hcz33_3 : w32.cell? ⟨gb194, 3, none⟩ = some (.slice none 0 0) := (blk_cell BK194.out 3).trans rfl; have hcz33_4 : w32.cell? ⟨gb194, 4, none⟩ = some (.slice none 0 0) := (blk_cell BK194.out 4).trans rfl; have hfz33_0 := blk_frozen BK194.out 0; have hfz33_1 := blk_frozen BK194.out 1; have hfz33_2 := blk_frozen BK194.out 2; have hfz33_3 := blk_frozen BK194.out 3; have hfz33_4 := blk_frozen BK194.out 4; obtain ⟨Ao34, co34, eo34⟩ := Kd.R_slice HO189.out; subst eo34; obtain ⟨Ao35, co35, eo35⟩ := Kd.R_slice HO192.out; subst eo35) | ((with_reducible refine gate_callee (f := 22) rfl ?_); refine goesL_ (some 42) rfl rfl Tryz.func22 (by kernel_rfl) rfl #[.agg #[.bool t184, .int .i64 t185, .string t186, .slice Ao34 t187.length co34, .slice Ao35 t190.length co35]] rfl (by (try simp only [List.map_toArray, List.map_cons, List.map_nil]); first | done | rfl | (simp only [List.length_drop, List.length_take]; rfl)) ?_; (with_reducible refine (policy_Right.calls kj8 t184 t185 t186 _ _ t187 _ _ t190 t195 _ ?side1 ?side2 ?side3 ?side4 A18.out).mono ?_); (case side1 => refine (Kd.R_reads' (e := 33) (base := w.heap.size) (ok := fun k_ => True) (n := t187.length) (c := co34) ?_).2.2; exact (by (with_reducible repeat (first | apply Kd.R_alloc | apply Kd.R_drewN | apply Kd.R_drew)); exact (Kd.R_mono (Kd.R_far (p := ⟨gb194, 4, none⟩) (Kd.R_far (p := ⟨gb194, 3, none⟩) (Kd.R_far (p := ⟨gb194, 2, none⟩) (Kd.R_far (p := ⟨gb194, 1, none⟩) (Kd.R_far (p := ⟨gb194, 0, none⟩) (Kd.R_types HO189.out BK194.out (by decide)) (fun _ hk => hk.2) (.bool t184)) (fun _ hk => hk.2) (.int .i64 t185)) (fun _ hk => hk.2) (.string t186)) (fun _ hk => hk.2) (.slice Ao34 t187.length co34)) (fun _ hk => hk.2) (.slice Ao35 t190.length co35)) (fun _ h_ => h_.1)))); (case side2 => exact (Kd.R_reads' HO189.out).2.1); (case side3 => refine (Kd.R_reads' (e := 9) (base := w.heap.size) (ok := fun k_ => (True ∧ some k_ ≠ (.slice (some ad183) t180.length co5 : Value).ownBlock)) (n := t190.length) (c := co35) ?_).2.2; exact (by (with_reducible repeat (first | apply Kd.R_alloc | apply Kd.R_drewN | apply Kd.R_drew)); exact (Kd.R_mono (Kd.R_far (p := ⟨gb194, 4, none⟩) (Kd.R_far (p := ⟨gb194, 3, none⟩) (Kd.R_far (p := ⟨gb194, 2, none⟩) (Kd.R_far (p := ⟨gb194, 1, none⟩) (Kd.R_far (p := ⟨gb194, 0, none⟩) (Kd.R_types HO192.out BK194.out (by decide)) (fun _ hk => hk.2) (.bool t184)) (fun _ hk => hk.2) (.int .i64 t185)) (fun _ hk => hk.2) (.string t186)) (fun _ hk => hk.2) (.slice Ao34 t187.length co34)) (fun _ hk => hk.2) (.slice Ao35 t190.length co35)) (fun _ h_ => h_.1)))); (case side4 => exact (Kd.R_reads' HO192.out).2.1); rintro e w36 ⟨rfl, hb⟩; refine ⟨_, rfl, ?_⟩; have n0_ := Aside0.mk (Kd.S_below (by (with_reducible repeat (first | apply Kd.S_alloc | apply Kd.S_drewN | apply Kd.S_drew)); exact (Kd.S_mono (Kd.S_far (p := ⟨gb194, 4, none⟩) (Kd.S_far (p := ⟨gb194, 3, none⟩) (Kd.S_far (p := ⟨gb194, 2, none⟩) (Kd.S_far (p := ⟨gb194, 1, none⟩) (Kd.S_far (p := ⟨gb194, 0, none⟩) (Kd.S_mono HO_5.out (fun k_ hk => (⟨hk, hk.2⟩ : _ ∧ k_ ≠ gb194))) (fun _ hk => hk.2) (.bool t184)) (fun _ hk => hk.2) (.int .i64 t185)) (fun _ hk => hk.2) (.string t186)) (fun _ hk => hk.2) (.slice Ao34 t187.length co34)) (fun _ hk => hk.2) (.slice Ao35 t190.length co35)) (fun _ h_ => h_.1))) hb); have n1_ := Aside0.mk (Kd.R_below (by (with_reducible repeat (first | apply Kd.R_alloc | apply Kd.R_drewN | apply Kd.R_drew)); exact (Kd.R_mono (Kd.R_far (p := ⟨gb194, 4, none⟩) (Kd.R_far (p := ⟨gb194, 3, none⟩) (Kd.R_far (p := ⟨gb194, 2, none⟩) (Kd.R_far (p := ⟨gb194, 1, none⟩) (Kd.R_far (p := ⟨gb194, 0, none⟩) (Kd.R_types HO_15.out BK194.out (by decide)) (fun _ hk => hk.2) (.bool t184)) (fun _ hk => hk.2) (.int .i64 t185)) (fun _ hk => hk.2) (.string t186)) (fun _ hk => hk.2) (.slice Ao34 t187.length co34)) (fun _ hk => hk.2) (.slice Ao35 t190.length co35)) (fun _ h_ => h_.1))) hb); have n2_ := Aside0.mk (Kd.R_below (by (with_reducible repeat (first | apply Kd.R_alloc | apply Kd.R_drewN | apply Kd.R_drew)); exact (Kd.R_mono (Kd.R_far (p := ⟨gb194, 4, none⟩) (Kd.R_far (p := ⟨gb194, 3, none⟩) (Kd.R_far (p := ⟨gb194, 2, none⟩) (Kd.R_far (p := ⟨gb194, 1, none⟩) (Kd.R_far (p := ⟨gb194, 0, none⟩) (Kd.R_types HO189.out BK194.out (by decide)) (fun _ hk => hk.2) (.bool t184)) (fun _ hk => hk.2) (.int .i64 t185)) (fun _ hk => hk.2) (.string t186)) (fun _ hk => hk.2) (.slice Ao34 t187.length co34)) (fun _ hk => hk.2) (.slice Ao35 t190.length co35)) (fun _ h_ => h_.1))) hb); have n3_ := Aside0.mk (Kd.R_below (by (with_reducible repeat (first | apply Kd.R_alloc | apply Kd.R_drewN | apply Kd.R_drew)); exact (Kd.R_mono (Kd.R_far (p := ⟨gb194, 4, none⟩) (Kd.R_far (p := ⟨gb194, 3, none⟩) (Kd.R_far (p := ⟨gb194, 2, none⟩) (Kd.R_far (p := ⟨gb194, 1, none⟩) (Kd.R_far (p := ⟨gb194, 0, none⟩) (Kd.R_types HO192.out BK194.out (by decide)) (fun _ hk => hk.2) (.bool t184)) (fun _ hk => hk.2) (.int .i64 t185)) (fun _ hk => hk.2) (.string t186)) (fun _ hk => hk.2) (.slice Ao34 t187.length co34)) (fun _ hk => hk.2) (.slice Ao35 t190.length co35)) (fun _ h_ => h_.1))) hb); have n4_ := Aside0.mk (blk_below (g := gb194) (o := .cells #[.bool t184, .int .i64 t185, .string t186, .slice Ao34 t187.length co34, .slice Ao35 t190.length co35] 46 (0, 0)) (by (with_reducible repeat (first | refine blk_drewN ?_ _ | refine blk_drew ?_ | refine blk_alloc ?_ _)); refine blk_put (cs := #[.bool t184, .int .i64 t185, .string t186, .slice Ao34 t187.length co34, .slice none 0 0]) ?_ 4 _ rfl; (with_reducible repeat (first | refine blk_drewN ?_ _ | refine blk_drew ?_ | refine blk_alloc ?_ _)); refine blk_put (cs := #[.bool t184, .int .i64 t185, .string t186, .slice none 0 0, .slice none 0 0]) ?_ 3 _ rfl; (with_reducible repeat (first | refine blk_drewN ?_ _ | refine blk_drew ?_ | refine blk_alloc ?_ _)); refine blk_put (cs := #[.bool t184, .int .i64 t185, .string (⟨#[]⟩ : ByteArray), .slice none 0 0, .slice none 0 0]) ?_ 2 _ rfl; (with_reducible repeat (first | refine blk_drewN ?_ _ | refine blk_drew ?_ | refine blk_alloc ?_ _)); refine blk_put (cs := #[.bool t184, .int .i64 0, .string (⟨#[]⟩ : ByteArray), .slice none 0 0, .slice none 0 0]) ?_ 1 _ rfl; (with_reducible repeat (first | refine blk_drewN ?_ _ | refine blk_drew ?_ | refine blk_alloc ?_ _)); refine blk_put (cs := #[.bool false, .int .i64 0, .string (⟨#[]⟩ : ByteArray), .slice none 0 0, .slice none 0 0]) ?_ 0 _ rfl; (with_reducible repeat (first | refine blk_drewN ?_ _ | refine blk_drew ?_ | refine blk_alloc ?_ _)); exact BK194.out) hb); have n5_ := Aside0.mk (below_step (by repeat (first | (with_reducible first | exact HB.out | apply below_alloc | apply pw_below_drewN | apply below_drew1 | refine below_set ?_ GE194.out) | exact HB.out)) hb); clear HO_5; clear HO_15; clear HO189; clear HO192; clear BK194; clear HB; have HO_5 := n0_; have HO_15 := n1_; have HO189 := n2_; have HO192 := n3_; have BK194 := n4_; have HB := n5_; clear n0_ n1_ n2_ n3_ n4_ n5_; (try clear hb); (try clear hb2); (try clear hk); (try clear hi)))
             go_ret3
             exact ⟨_, by first | rfl | (simp [errW_none, errW_some] <;> rfl) | (simp [*, errW_none, errW_some] <;> rfl), by first | exact Kd.S_nil _ _ _ _ _ | exact Kd.N_nil _ _ _ _ _ | exact Kd.V_nil _ _ _ _ _ | exact Kd.Q_nil _ _ _ _ _ | exact Kd.R_nil _ _ _ _ _, by repeat (first | (with_reducible first | exact HB.out | apply below_alloc | apply pw_below_drewN | apply below_drew1 | refine below_set ?_ GE194.out) | exact HB.out)⟩
           ·
            replace c17 := Bool.eq_false_iff.mpr c17
            subst c17
            have H1 : (some (([] : List (S46)), 110, x17_1)) = some (r1, r2, r3) := by rw [if_neg (show ¬ (false = true) by decide)] at H; exact H
            clear H
            have H := H1
            clear H1
            simp only [Option.some.injEq, Prod.mk.injEq] at H
            obtain ⟨rfl, rfl, rfl⟩ := H
            obtain ⟨Ao37, co37, eo37⟩ := Kd.S_slice HO_5.out
            subst eo37
            go_wp2_with (first | ((with_reducible refine gate_callee (f := 42) rfl ?_); refine goesL_ (some 35) rfl rfl Tryz.func42 (by kernel_rfl) rfl #[.string (rdOf ByteArray.empty t180 x17_1)] rfl (by (try simp only [List.map_toArray, List.map_cons, List.map_nil]); first | done | rfl | (simp only [List.length_drop, List.length_take]; rfl)) ?_; (with_reducible refine (policy_rule.calls kj8 (rdOf ByteArray.empty t180 x17_1) t184 t185 t186 t187 t190 false _ A16.out).mono ?_); rintro e w38 ⟨v188, v191, rfl, ho0, ho1, hb⟩; refine ⟨_, rfl, ?_⟩; have n0_ := Aside0.mk (Kd.S_mono (Kd.S_told (Kd.S_told (Kd.S_old (by (with_reducible repeat (first | apply Kd.S_alloc | apply Kd.S_drewN | apply Kd.S_drew)); exact HO_5.out) hb) (Kd.R_base ho0)) (Kd.R_base ho1)) (fun _ h_ => h_.1)); have n1_ := Aside0.mk (Kd.R_elder' (by (with_reducible repeat (first | apply Kd.R_alloc | apply Kd.R_drewN | apply Kd.R_drew)); exact HO_15.out) (Kd.R_base ho1) hb); have n2_ := Aside0.mk (Kd.R_lower ho0 (below_size (by repeat (first | (with_reducible first | exact HB.out | apply below_alloc | apply pw_below_drewN | apply below_drew1) | exact HB.out)))); have n3_ := Aside0.mk (Kd.R_lower (Kd.R_new' ho1 (Kd.R_lt (by (with_reducible repeat (first | apply Kd.R_alloc | apply Kd.R_drewN | apply Kd.R_drew)); exact HO_15.out))) (below_size (by repeat (first | (with_reducible first | exact HB.out | apply below_alloc | apply pw_below_drewN | apply below_drew1) | exact HB.out)))); have n4_ := Aside0.mk (below_step (by repeat (first | (with_reducible first | exact HB.out | apply below_alloc | apply pw_below_drewN | apply below_drew1) | exact HB.out)) hb); clear HO_5; clear HO_15; clear HB; have HO_5 := n0_; have HO_15 := n1_; have HO189 := n2_; have HO192 := n3_; have HB := n4_; clear n0_ n1_ n2_ n3_ n4_; (try clear hb); (try clear hb2); (try clear hk); (try clear hi); (try clear ho0); (try clear ho1)) | ((with_reducible refine gate_dst (N := 8) rfl ?_); refine box_event ?hg (N := 8) ?hd (cs := #[.bool false, .int .i64 0, .string (⟨#[]⟩ : ByteArray), .slice none 0 0, .slice none 0 0]) (t := 46) ?hr ?_; (case hd => rfl); (case hg => rfl); (case hr => first | (go_simp; done) | (go_simp; rfl)); intro gb194 hg w39 hbox hb; have n0_ := Aside0.mk (Kd.S_below (Kd.S_elderB (by (with_reducible repeat (first | apply Kd.S_alloc | apply Kd.S_drewN | apply Kd.S_drew)); exact HO_5.out) gb194 (Nat.le_of_eq hg.symm)) hb); have n1_ := Aside0.mk (Kd.R_below (by (with_reducible repeat (first | apply Kd.R_alloc | apply Kd.R_drewN | apply Kd.R_drew)); exact HO_15.out) hb); have n2_ := Aside0.mk (Kd.R_below (by (with_reducible repeat (first | apply Kd.R_alloc | apply Kd.R_drewN | apply Kd.R_drew)); exact HO189.out) hb); have n3_ := Aside0.mk (Kd.R_below (by (with_reducible repeat (first | apply Kd.R_alloc | apply Kd.R_drewN | apply Kd.R_drew)); exact HO192.out) hb); have n4_ := Aside0.mk (below_step (by repeat (first | (with_reducible first | exact HB.out | apply below_alloc | apply pw_below_drewN | apply below_drew1) | exact HB.out)) hb); have n5_ := Aside0.mk (hbox); have n6_ := Aside0.mk ((by rw [hg]; exact (below_size (by repeat (first | (with_reducible first | exact HB.out | apply below_alloc | apply pw_below_drewN | apply below_drew1) | exact HB.out))) : w.heap.size ≤ gb194)); have n7_ := Aside0.mk ((by rw [hg]; exact (below_size (by repeat (first | (with_reducible first | exact HB.out | apply below_alloc | apply pw_below_drewN | apply below_drew1) | exact HB.out))) : w.heap.size ≤ gb194)); clear HO_5; clear HO_15; clear HO189; clear HO192; clear HB; have HO_5 := n0_; have HO_15 := n1_; have HO189 := n2_; have HO192 := n3_; have HB := n4_; have BK194 := n5_; have GW194 := n6_; have GE194 := n7_; clear n0_ n1_ n2_ n3_ n4_ n5_ n6_ n7_; clear hb hbox hg; have hcz40_0 : w39.cell? ⟨gb194, 0, none⟩ = some (.bool false) := (blk_cell BK194.out 0).trans rfl; have hcz40_1 : w39.cell? ⟨gb194, 1, none⟩ = some (.int .i64 0) := (blk_cell BK194.out 1).trans rfl; have hcz40_2 : w39.cell? ⟨gb194, 2, none⟩ = some (.string (⟨#[]⟩ : ByteArray)) := (blk_cell BK194.out 2).trans rfl; have hcz40_3 : w39.cell? ⟨gb194, 3, none⟩ = some (.slice none 0 0) := (blk_cell BK194.out 3).trans rfl; have hcz40_4 : w39.cell? ⟨gb194, 4, none⟩ = some (.slice none 0 0) := (blk_cell BK194.out 4).trans rfl; have hfz40_0 := blk_frozen BK194.out 0; have hfz40_1 := blk_frozen BK194.out 1; have hfz40_2 := blk_frozen BK194.out 2; have hfz40_3 := blk_frozen BK194.out 3; have hfz40_4 := blk_frozen BK194.out 4; obtain ⟨Ao41, co41, eo41⟩ := Kd.R_slice HO189.out; subst eo41; obtain ⟨Ao42, co42, eo42⟩ := Kd.R_slice HO192.out; subst eo42))
            go_ret3
            exact ⟨_, by first | rfl | (simp [errW_none, errW_some] <;> rfl) | (simp [*, errW_none, errW_some] <;> rfl), by first | exact Kd.S_nil _ _ _ _ _ | exact Kd.N_nil _ _ _ _ _ | exact Kd.V_nil _ _ _ _ _ | exact Kd.Q_nil _ _ _ _ _ | exact Kd.R_nil _ _ _ _ _, by repeat (first | (with_reducible first | exact HB.out | apply below_alloc | apply pw_below_drewN | apply below_drew1 | refine below_set ?_ GE194.out) | exact HB.out)⟩
      ·
       rw [if_neg c8] at H
       exact absurd H (by simp)
     ·
      rw [if_neg c7] at H
      exact absurd H (by simp)
    ·
     rw [if_neg c6] at H
     have c6b0 : decide (x17_1 < (t180.length : Int)) = false := decide_eq_false c6
     clear c6
     simp only [Option.some.injEq, Prod.mk.injEq] at H
     obtain ⟨rfl, rfl, rfl⟩ := H
     go_wp2
     go_ret3
     exact ⟨_, by first | rfl | (simp [errW_none, errW_some] <;> rfl) | (simp [*, errW_none, errW_some] <;> rfl), by (with_reducible repeat (first | apply Kd.S_alloc | apply Kd.S_drewN | apply Kd.S_drew)); exact Kd.S_mono HO_5.out (fun _ hk => trivial), by repeat (first | (with_reducible first | exact HB.out | apply below_alloc | apply pw_below_drewN | apply below_drew1) | exact HB.out)⟩
def belfrylaw11_known.f (k : Nat)  : Option (Bool) := (policy_Parse.f k (⟨#[97, 108, 108, 111, 119, 32, 108, 111, 103, 115, 32, 116, 111, 32, 103, 108, 111, 98, 101, 120, 32, 119, 104, 101, 114, 101, 32, 123, 101, 110, 118, 61, 34, 112, 114, 111, 100, 34, 125, 32, 104, 105, 100, 101, 32, 117, 115, 101, 114, 10, 100, 101, 110, 121, 32, 108, 111, 103, 115, 32, 116, 111, 32, 42, 32, 119, 104, 101, 114, 101, 32, 123, 108, 101, 118, 101, 108, 61, 34, 100, 101, 98, 117, 103, 34, 125, 10]⟩ : ByteArray)).bind fun bt199 => ((policy_Parse.f k (⟨#[10, 97, 108, 108, 111, 119, 32, 120, 32, 116, 111, 32, 121]⟩ : ByteArray)).bind fun bt204 => ((policy_Views.f k bt199.1 (⟨#[97, 99, 109, 101]⟩ : ByteArray) (⟨#[103, 108, 111, 98, 101, 120]⟩ : ByteArray) 2).bind fun t209 => ((policy_Views.f k bt199.1 (⟨#[97, 99, 109, 101]⟩ : ByteArray) (⟨#[105, 110, 105, 116, 101, 99, 104]⟩ : ByteArray) 2).bind fun t212 => (if bt199.2.1 = 0 then (if (bt199.1.length : Int) = 2 then (if bt204.2.1 = 110 then (if bt204.2.2 = 1 then (if (t209.length : Int) = 1 then (if 0 < (t209.length : Int) then (if (((rd_T31 t209 0).f1).length : Int) = 2 then (if (((rd_T31 t209 0).f2).length : Int) = 1 then (some ((t212.length : Int) == 0)) else (some false)) else (some false)) else (none)) else (some false)) else (some false)) else (some false)) else (some false)) else (some false)))))
end Go.Proofs.YtkedidjjhhjdbaaGreatDoor.Pr
end
section
set_option linter.unusedVariables false
set_option linter.unusedSimpArgs false
namespace Go.Proofs.YtkedidjjhhjdbaaGreatDoor.Pr
open Go.RowKit Go.Proofs.YtkedidjjhhjdbaaGreatDoorW.PrintWords Go.Proofs.YtkedidjjhhjdbaaGreatDoorW.PrintLast Go.Proofs.YtkedidjjhhjdbaaGreatDoorW.PrintMore
set_option maxHeartbeats 8000000 in
set_option maxRecDepth 100000 in
theorem known.calls (k : Nat) (w : World) (h : belfrylaw11_known.f k = some true)
  (he_ : EnvW w := by repeat (first | with_reducible assumption | with_reducible exact env_of (by with_reducible assumption) (by with_reducible assumption) | with_reducible exact env_out (by with_reducible assumption) | with_reducible apply env_alloc | with_reducible apply env_drewN | with_reducible apply env_drew | with_reducible refine env_set ?_ (by with_reducible assumption) (by with_reducible assumption))) :
  Calls Tryz.prog 9 #[] w fun e w' => e = .returned (.bool true) ∧ Below w.heap.size w w' := by
 unfold belfrylaw11_known.f at h
 obtain ⟨⟨l1, p1, q1⟩, hp1, h1⟩ := Option.bind_eq_some_iff.mp h
 clear h
 obtain ⟨⟨l2, p2, q2⟩, hp2, h2⟩ := Option.bind_eq_some_iff.mp h1
 clear h1
 obtain ⟨v1, hv1, h3⟩ := Option.bind_eq_some_iff.mp h2
 clear h2
 obtain ⟨v2, hv2, h⟩ := Option.bind_eq_some_iff.mp h3
 clear h3
 simp only at hv1 hv2 h
 by_cases c1 : p1 = 0
 case neg => rw [if_neg c1] at h; simp at h
 rw [if_pos c1] at h
 subst c1
 by_cases c2 : (l1.length : Int) = 2
 case neg => rw [if_neg c2] at h; simp at h
 rw [if_pos c2] at h
 by_cases c3 : p2 = 110
 case neg => rw [if_neg c3] at h; simp at h
 rw [if_pos c3] at h
 subst c3
 by_cases c4 : q2 = 1
 case neg => rw [if_neg c4] at h; simp at h
 rw [if_pos c4] at h
 subst c4
 by_cases c5 : (v1.length : Int) = 1
 case neg => rw [if_neg c5] at h; simp at h
 rw [if_pos c5] at h
 by_cases c6 : 0 < (v1.length : Int)
 case neg => rw [if_neg c6] at h; simp at h
 rw [if_pos c6] at h
 by_cases c7 : (((rd_T31 v1 0).f1).length : Int) = 2
 case neg => rw [if_neg c7] at h; simp at h
 rw [if_pos c7] at h
 by_cases c8 : (((rd_T31 v1 0).f2).length : Int) = 1
 case neg => rw [if_neg c8] at h; simp at h
 rw [if_pos c8] at h
 have c9 : ((v2.length : Int) == 0) = true := by simpa using h
 have HP1 := Aside0.mk hp1
 have HP2 := Aside0.mk hp2
 have HV1 := Aside0.mk hv1
 have HV2 := Aside0.mk hv2
 have HE := Aside0.mk he_
 have HB := Aside0.mk (Below.refl w.heap.size w)
 clear hp1 hp2 hv1 hv2 he_ h
 go_enter Tryz.func9, Tryz.ntmps9
 go_wp2_with fail
 refine (policy_Parse.calls k _ l1 0 q1 w HP1.out HE.out).mono ?_
 rintro e w1 ⟨u1, rfl, ho1, hb⟩
 have HO1 := Aside0.mk ho1
 replace HB := Aside0.mk hb
 clear ho1 hb HP1
 obtain ⟨A1, c1, rfl⟩ := Kd.S_slice HO1.out
 go_wp2_with fail
 refine (policy_Parse.calls k _ l2 110 1 w1 HP2.out (env_below HE.out HB.out)).mono ?_
 rintro e w2 ⟨u2, rfl, ho2, hb⟩
 have HO2 := Aside0.mk ho2
 replace HO1 := Aside0.mk (Kd.S_below HO1.out hb)
 replace HB := Aside0.mk (below_step HB.out hb)
 clear ho2 hb HP2
 obtain ⟨A2, c2', rfl⟩ := Kd.S_slice HO2.out
 go_wp2_with fail
 refine (policy_Views.calls k A1 c1 l1 _ _ 2 v1 w2 (Kd.S_reads' HO1.out).2.2 (Kd.S_reads' HO1.out).2.1 HV1.out (env_below HE.out HB.out)).mono ?_
 rintro e w3 ⟨u3, rfl, ho3, hb⟩
 have HO3 := Aside0.mk ho3
 replace HO1 := Aside0.mk (Kd.S_below HO1.out hb)
 replace HB := Aside0.mk (below_step HB.out hb)
 clear ho3 hb HV1 HO2
 obtain ⟨A3, c3, rfl⟩ := Kd.R_slice HO3.out
 go_wp2_with fail
 refine (policy_Views.calls k A1 c1 l1 _ _ 2 v2 w3 (Kd.S_reads' HO1.out).2.2 (Kd.S_reads' HO1.out).2.1 HV2.out (env_below HE.out HB.out)).mono ?_
 rintro e w4 ⟨u4, rfl, ho4, hb⟩
 have HO4 := Aside0.mk ho4
 replace HO3 := Aside0.mk (Kd.R_below HO3.out hb)
 replace HB := Aside0.mk (below_step HB.out hb)
 clear ho4 hb HV2 HO1
 obtain ⟨A4, c4, rfl⟩ := Kd.R_slice HO4.out
 obtain ⟨ad, B1, d1, B2, d2, e3, hx0, hx1, hx2, _⟩ := at_T31 (kV_C (Kd.R_reads' HO3.out).2.2) 0 (Int.le_refl 0) c6
 subst e3
 simp only [Int.toNat_zero, Nat.zero_mul, show ad.add 0 = ad by simp [Addr.add]] at hx0 hx1 hx2
 have e1 : ((l1.length : Int) == 2) = true := beq_iff_eq.mpr c2
 have e2 : ((v1.length : Int) == 1) = true := beq_iff_eq.mpr c5
 have e4 : (((rd_T31 v1 0).f1.length : Int) == 2) = true := beq_iff_eq.mpr c7
 have e5 : (((rd_T31 v1 0).f2.length : Int) == 1) = true := beq_iff_eq.mpr c8
 have e6 := eq_true c6
 have e7 := eq_true (show 0 < v1.length by omega)
 have e8 : decide (0 < (v1.length : Int)) = true := decide_eq_true c6
 have e9 : decide (0 < v1.length) = true := decide_eq_true (by omega)
 clear c2 c5 c6 c7 c8
 go_wp2
 go_ret
 exact ⟨rfl, HB.out⟩
end Go.Proofs.YtkedidjjhhjdbaaGreatDoor.Pr
end
section
set_option linter.unusedVariables false
set_option linter.unusedSimpArgs false
namespace Go.Proofs.YtkedidjjhhjdbaaGreatDoor.Pr
open Go.RowKit Go.Proofs.YtkedidjjhhjdbaaGreatDoorW.PrintWords Go.Proofs.YtkedidjjhhjdbaaGreatDoorW.PrintLast Go.Proofs.YtkedidjjhhjdbaaGreatDoorW.PrintMore
def belfrylaw11_PolicyMore.T6 : Bool × List (List Nat × List Nat) := (true, [([], []), ([], []), ([], []), ([], []), ([0, 1, 2, 3], [0, 1, 2, 3]), ([], []), ([4, 5, 4], [4, 5]), ([6], [6]), ([7], [7]), ([7], [7]), ([], []), ([10, 8, 6, 0, 1, 2, 3, 4, 5, 6, 7, 8, 10], [8, 10]), ([9, 11, 0, 1, 2, 3, 4, 5, 6, 7, 8, 9, 10, 11], [9])])
def belfrylaw11_PolicyMore.B6 : List Nat := [0, 0, 0, 0, 15, 0, 63, 127, 255, 255, 0, 1535, 4095]
set_option maxRecDepth 100000 in
theorem belfrylaw11_PolicyMore.tab6 : rtab .any (opsOf Tryz.f8 6) = belfrylaw11_PolicyMore.T6 := by kernel_rfl
set_option maxRecDepth 100000 in
theorem belfrylaw11_PolicyMore.bits6 : waitsOk belfrylaw11_PolicyMore.T6.2 belfrylaw11_PolicyMore.B6 = true := by kernel_rfl
def belfrylaw11_PolicyMore.T7 : Bool × List (List Nat × List Nat) := (true, [([], []), ([], []), ([], []), ([], []), ([0, 1, 2, 3], [0, 1, 2, 3]), ([], []), ([4, 5, 4], [4, 5]), ([6], [6]), ([7], [7]), ([7], [7]), ([], []), ([10, 8, 6, 0, 1, 2, 3, 4, 5, 6, 7, 8, 10], [8, 10]), ([9, 11, 0, 1, 2, 3, 4, 5, 6, 7, 8, 9, 10, 11], [9])])
def belfrylaw11_PolicyMore.B7 : List Nat := [0, 0, 0, 0, 15, 0, 63, 127, 255, 255, 0, 1535, 4095]
set_option maxRecDepth 100000 in
theorem belfrylaw11_PolicyMore.tab7 : rtab .any (opsOf Tryz.f8 7) = belfrylaw11_PolicyMore.T7 := by kernel_rfl
set_option maxRecDepth 100000 in
theorem belfrylaw11_PolicyMore.bits7 : waitsOk belfrylaw11_PolicyMore.T7.2 belfrylaw11_PolicyMore.B7 = true := by kernel_rfl
theorem exec_load52 {ρ : Operand → Value} {o : Oper} {x : Operand} (ho : o.op = .load 52 x) {g : Nat} (hx : ρ x = .pointer (some ⟨g, 0, none⟩)) {W : World} {cs : Array Value} (hg : W.heap[g]? = some (.cells cs 52 (0, 0))) (hs : cs.size = 40) :
  (execOp ρ o).run Tryz.prog W = .ok (.value (.agg cs)) W := by
 unfold execOp
 simp only [ho, hx, Instr.loadAt, Instr.sureAddr, Sem.run_bind, Sem.run_pure, Result.andThen_ok, run_loadVar_row (P := Tryz.prog) W g 52 52 cs (0, 0) _ hg Tryz.underlying52 rfl (by rw [hs]; kernel_rfl)]
theorem exec_store52 {ρ : Operand → Value} {o : Oper} {x y : Operand} (ho : o.op = .store 52 x y) {g : Nat} (hx : ρ x = .pointer (some ⟨g, 0, none⟩)) {W : World} {cs old : Array Value} (hy : ρ y = .agg cs) (hg : W.heap[g]? = some (.cells old 52 (0, 0))) (hs : cs.size = 40) (hold : old.size = 40) (h1 : cs.all (·.oneCell') = true) :
  (execOp ρ o).run Tryz.prog W = .ok .skip (W.setRow g cs) := by
 unfold execOp
 simp only [ho, hx, hy, Instr.storeAt, Instr.sureAddr, Sem.run_bind, Sem.run_pure, Result.andThen_ok, run_storeVar_row (P := Tryz.prog) W g 52 52 old cs hg (by rw [hs]; kernel_rfl) (by rw [hs, hold]) h1]
theorem wpList_load_on {P : Program} {ops : Array Oper} {rest : List Oper} {o : Oper} {a : Act} {w : World} {Q : Exit → Act → World → Prop} (ty : TypeId) (x : Operand) (ho : o.op = .load ty x)
  (hw : Region.wanted o (yielded ops a.tmps) = true) (g : Nat) (hx : a.eval x = .pointer (some ⟨g, 0, none⟩)) (t : TypeId) (cs : Array Value) (fr : Nat × Nat) (d : TypeDesc) (hg : w.heap[g]? = some (.cells cs t fr))
  (hu : P.underlying ty = some d) (hd : (match d with | .struct _ | .array _ _ => true | _ => false) = true) (hi : (P.info? ty).map (·.size) = some cs.size)
  (h : wpList P ops Q rest (a.put o.dst (.agg cs)) w) : wpList P ops Q (o :: rest) a w := by
 simp only [wpList, hw]
 rw [if_pos trivial]
 exact .inl (wp_load_row ty x ho g hx t cs fr d hg hu hd hi h)
theorem fix_C {w W : World} {A : Option Addr} {n : Nat} {xs : List S46} (h : (Kd.fixed k46 w).C W A n xs) (hb : Below w.heap.size w W) : k46.C W A n xs := by
 obtain ⟨h1, h2, h3⟩ := h
 refine ⟨h1, h2, fun hn => ?_⟩
 obtain ⟨ad, e, h4⟩ := h3 hn
 refine ⟨ad, e, fun j p hp => ?_⟩
 obtain ⟨c, hc, hK, h5⟩ := h4 j p hp
 exact ⟨c, hc, k46.K_below hb hK, h5⟩
structure SeenC (x : Rc) (base : Nat) (r : Option (List S62)) (oc : Array Value) (W : World) : Prop where
  some : ∀ ys, r = some ys → ∃ A c, oc = x.cells (.slice A ys.length c) ∧ Kd.R k62 62 W base (fun _ => True) (.slice A ys.length c) ys
  none : r = none → oc = z52
theorem SeenC.below {x : Rc} {base : Nat} {r : Option (List S62)} {oc : Array Value} {W W' : World} (h : SeenC x base r oc W) (hb : Below W.heap.size W W') : SeenC x base r oc W' := by
 refine ⟨fun ys hy => ?_, h.none⟩
 obtain ⟨A, c, h1, h2⟩ := h.some ys hy
 exact ⟨A, c, h1, Kd.R_below h2 hb⟩
theorem SeenC.setRow {x : Rc} {base : Nat} {r : Option (List S62)} {oc : Array Value} {W : World} (h : SeenC x base r oc W) {g : Nat} {old : Array Value} (hb : W.heap[g]? = .some (.cells old 52 (0, 0))) (cs : Array Value) : SeenC x base r oc (W.setRow g cs) := by
 refine ⟨fun ys hy => ?_, h.none⟩
 obtain ⟨A, c, h1, h2⟩ := h.some ys hy
 exact ⟨A, c, h1, R_setRow h2 hb (by decide) cs⟩
theorem SeenC.lower {x : Rc} {base base' : Nat} {r : Option (List S62)} {oc : Array Value} {W : World} (h : SeenC x base r oc W) (hb : base' ≤ base) : SeenC x base' r oc W := by
 refine ⟨fun ys hy => ?_, h.none⟩
 obtain ⟨A, c, h1, h2⟩ := h.some ys hy
 exact ⟨A, c, h1, Kd.R_lower h2 hb⟩
theorem SeenC.size {x : Rc} (hx : x.ok) {base : Nat} {r : Option (List S62)} {oc : Array Value} {W : World} (h : SeenC x base r oc W) : oc.size = 40 ∧ oc.all (·.oneCell') = true := by
 cases r with
 | none => rw [h.none rfl]; exact ⟨rfl, by kernel_rfl⟩
 | some ys =>
  obtain ⟨A, c, rfl, _⟩ := h.some ys rfl
  exact ⟨Rc.size hx _, Rc.ones x rfl⟩
theorem seen_out {x : Rc} {v : Value} {base : Nat} {r : Option (List S62)} {e : Ending} {W : World} (h : Seen52 (x.cells v) base r e W) : ∃ oc, e = .returned (.tuple #[.agg oc, .bool r.isSome]) ∧ SeenC x base r oc W := by
 cases r with
 | none => exact ⟨z52, h, ⟨fun _ h => (by cases h), fun _ => rfl⟩⟩
 | some ys =>
  obtain ⟨u, he, hR⟩ := h
  obtain ⟨A, c, rfl⟩ := Kd.R_slice hR
  refine ⟨_, he, ⟨fun ys' hy => ?_, fun h => (by cases h)⟩⟩
  obtain rfl := Option.some.inj hy
  exact ⟨A, c, Rc.set2 x _ _, hR⟩
structure MoF (k : Nat) (l : List S46) (mr : S46) (o v : ByteArray) (kd : Int) (ts : List S62) (v1 v2 : List S31) (r1 r2 : Option (List S62)) : Prop where
  pv1 : policy_Views.f k l o v kd = some v1
  pv2 : policy_Views.f k (l ++ [mr]) o v kd = some v2
  s1 : policy_Sees.go k ts v1 = some r1
  s2 : policy_Sees.go k ts v2 = some r2
  den : mr.f0 = true → r2.isSome = true → r1.isSome = true
  alw : mr.f0 = false → ∀ ys, r1 = some ys → r2 = some ys
  same : ∀ ys, r1 = some ys → belfryref04_Same.f k ys ys = some true
set_option maxHeartbeats 8000000 in
set_option maxRecDepth 100000 in
theorem more_walk (k kk : Nat) (A : Option Addr) (c : Nat) (l : List S46) (mr : S46) (A3 A4 : Option Addr) (c3 c4 : Nat) (o v : ByteArray) (kd : Int) (x : Rc) (hx : x.ok) (B : Option Addr) (cb : Nat) (ts : List S62) (w : World)
  (hr : Kd.C k46 w A l.length l) (hc : l.length ≤ c) (l3 : mr.f3.length ≤ c3) (g3 : k33.C w A3 mr.f3.length mr.f3) (l4 : mr.f4.length ≤ c4) (g4 : Kd.string.C w A4 mr.f4.length mr.f4)
  (ha : Kd.C k62 w B ts.length ts) (hac : ts.length ≤ cb) (hk : belfrylaw11_known.f kk = some true)
  (h : l.length ≤ 200 → ∃ v1 v2 r1 r2, MoF k l mr o v kd ts v1 v2 r1 r2) (he : EnvW w) :
  Calls Tryz.prog 8 #[.slice A l.length c, .agg #[.bool mr.f0, .int .i64 mr.f1, .string mr.f2, .slice A3 mr.f3.length c3, .slice A4 mr.f4.length c4], .string o, .string v, .int .i64 kd, .agg (x.cells (.slice B ts.length cb))] w fun e w' => e = .returned (.bool true) ∧ Below w.heap.size w w' := by
 have hu52 := Tryz.underlying52
 have hu46 := Tryz.underlying46
 have HR := Aside0.mk hr
 have HE := Aside0.mk he
 have HK := Aside0.mk hk
 have HA := Aside0.mk ha
 have HM := Aside0.mk (k46_mk w mr l3 g3 l4 g4)
 have HX := Aside0.mk hx
 clear hr hk ha g3 g4 he hx
 obtain ⟨cs, hcs⟩ : ∃ cs, cs = x.cells (.slice B ts.length cb) := ⟨_, rfl⟩
 rw [← hcs]
 have hs : cs.size = 40 := by rw [hcs]; exact Rc.size HX.out _
 have h1 : cs.all (·.oneCell') = true := by rw [hcs]; exact Rc.ones x rfl
 have h2 : cs[2]? = some (.slice B ts.length cb) := by rw [hcs]; exact Rc.at2 x _
 have HCS := Aside0.mk hcs
 clear hcs
 by_cases hl : l.length ≤ 200
 ·
  obtain ⟨v1, v2, r1, r2, hF⟩ := h hl
  have HF := Aside0.mk hF
  have b0 : decide (200 < (l.length : Int)) = false := decide_eq_false (by omega)
  have b1 : decide (200 < l.length) = false := decide_eq_false (by omega)
  clear h hF
  go_enter Tryz.func8, Tryz.ntmps8
  go_wp2_with (first | ((with_reducible refine gate_builtin (b := .append) (xs := #[.tmp 22, .tmp 23]) rfl ?_); at_builtin; refine Aside0.out ?_))
  refine ⟨?_⟩
  obtain ⟨mc, hmc⟩ : ∃ mc : Array Value, mc = #[.bool mr.f0, .int .i64 mr.f1, .string mr.f2, .slice A3 mr.f3.length c3, .slice A4 mr.f4.length c4] := ⟨_, rfl⟩
  have HW : Aside0 (((w.alloc (.cells mc 46)).alloc (.cells cs 52)).heap[w.heap.size]? = some (.cells mc 46 (0, 0)) ∧ ((w.alloc (.cells mc 46)).alloc (.cells cs 52)).heap[w.heap.size + 1]? = some (.cells cs 52 (0, 0)) ∧ Below w.heap.size w ((w.alloc (.cells mc 46)).alloc (.cells cs 52))) := by
   refine ⟨blk_alloc (blk_new w _) _, ?_, below_alloc (below_alloc (Below.refl _ _) _) _⟩
   have := blk_new (w.alloc (.cells mc 46)) (.cells cs 52)
   simpa using this
  rw [hmc] at HW
  have hsz0 : w.heap.size + 1 < ((w.alloc (.cells #[.bool mr.f0, .int .i64 mr.f1, .string mr.f2, .slice A3 mr.f3.length c3, .slice A4 mr.f4.length c4] 46)).alloc (.cells cs 52)).heap.size := by simp
  generalize (w.alloc (.cells #[.bool mr.f0, .int .i64 mr.f1, .string mr.f2, .slice A3 mr.f3.length c3, .slice A4 mr.f4.length c4] 46)).alloc (.cells cs 52) = W1 at HW hsz0 ⊢
  clear hmc mc
  refine Kd.R_append_rows (Kd.fixed k46 w) (Rr := k46.K w) (w0 := W1) W1.heap.size rfl (.tmp 22) (.tmp 23) 22 46 (.agg #[(.bool false), (.int .i64 0), (.string ⟨#[]⟩), (.slice none 0 0), (.slice none 0 0)]) 80 rfl Tryz.underlying22 info46 rfl (show 0 < 5 from by decide) (by omega) (.slice none 0 0) ([] : List S46) l A l.length c (fun _ => True) (fun _ => False) rfl rfl (Kd.R_nil _ _ _ _ _) (Kd.C_below (d := Kd.fixed k46 w) (show (Kd.fixed k46 w).C w A l.length l from HR.out) HW.out.2.2) (fun _ _ h => h) (fun _ h => h.elim) (fun _ _ => trivial) (Below.refl _ _) (Nat.le_refl _) (by simp only [List.length_nil, Nat.zero_add]; omega) ?_
  intro vm W2 hR2 hb2 hg2 _
  have hw0 := HW.out.2.2
  have hw1 := And.intro HW.out.1 HW.out.2.1
  rw [List.nil_append] at hR2
  have HR2 := Aside0.mk hR2
  replace HW : Aside0 (W2.heap[w.heap.size]? = some (.cells #[.bool mr.f0, .int .i64 mr.f1, .string mr.f2, .slice A3 mr.f3.length c3, .slice A4 mr.f4.length c4] 46 (0, 0)) ∧ W2.heap[w.heap.size + 1]? = some (.cells cs 52 (0, 0)) ∧ Below w.heap.size w W2) :=
   ⟨blk_below HW.out.1 hb2, blk_below HW.out.2.1 hb2, below_step HW.out.2.2 hb2⟩
  have hsz1 : w.heap.size + 1 < W1.heap.size := hsz0
  have HB2 := Aside0.mk hb2
  have HW0 := Aside0.mk hw0
  have HW1 := Aside0.mk hw1
  clear hw0 hw1
  clear hR2 hb2 hg2
  obtain ⟨Am, cm, rfl⟩ := Kd.R_slice HR2.out
  have q0 := (blk_cell HW.out.1 0).trans rfl
  have q1 := (blk_cell HW.out.1 1).trans rfl
  have q2 := (blk_cell HW.out.1 2).trans rfl
  have q3 := (blk_cell HW.out.1 3).trans rfl
  have q4 := (blk_cell HW.out.1 4).trans rfl
  go_wp2_with (first | ((with_reducible refine gate_builtin (b := .append) (xs := #[.tmp 25, .tmp 27]) rfl ?_); at_builtin; refine Aside0.out ?_))
  refine ⟨?_⟩
  refine Kd.R_append (Kd.fixed k46 w) (w0 := W1) W1.heap.size rfl (.tmp 25) (.tmp 27) 22 46 (.agg #[(.bool false), (.int .i64 0), (.string ⟨#[]⟩), (.slice none 0 0), (.slice none 0 0)]) 80 rfl Tryz.underlying22 info46 rfl (show 0 < 5 from by decide) (by omega) (.slice Am l.length cm) l mr [.bool mr.f0, .int .i64 mr.f1, .string mr.f2, .slice A3 mr.f3.length c3, .slice A4 mr.f4.length c4] (fun _ => True) (fun _ => False) rfl rfl HM.out (fun _ hh => hh.elim) (fun _ _ => trivial) HR2.out HB2.out HB2.out.size (by omega) ?_
  intro vm W3 hR3 hb3 hg3 _
  obtain ⟨lm, hlm⟩ : ∃ lm, lm = l ++ [mr] := ⟨_, rfl⟩
  have HP2 : Aside0 (policy_Views.f k lm o v kd = some v2) := ⟨by rw [hlm]; exact HF.out.pv2⟩
  rw [← hlm] at hR3
  clear hlm
  have HM3 := Aside0.mk hR3
  have hb4 : Below w.heap.size w W3 := by
   refine ⟨hb3.os.trans HW0.out.os, hb3.tape.trans HW0.out.tape, hb3.output.trans HW0.out.output, Nat.le_trans HW0.out.size hb3.size, fun i hi => ?_⟩
   rw [hb3.block i (by omega), HW0.out.block i hi]
  replace HW : Aside0 (W3.heap[w.heap.size]? = some (.cells #[.bool mr.f0, .int .i64 mr.f1, .string mr.f2, .slice A3 mr.f3.length c3, .slice A4 mr.f4.length c4] 46 (0, 0)) ∧ W3.heap[w.heap.size + 1]? = some (.cells cs 52 (0, 0)) ∧ Below w.heap.size w W3) :=
   ⟨(hb3.block _ (by omega)).trans HW1.out.1, (hb3.block _ (by omega)).trans HW1.out.2, hb4⟩
  clear hR3 hb3 hb4 hg3 q0 q1 q2 q3 q4 HR2 HB2 HW0 HW1
  obtain ⟨Al, cl, rfl⟩ := Kd.R_slice HM3.out
  have HL := Aside0.mk (fix_C (Kd.R_reads' HM3.out).2.2 HW.out.2.2)
  have hlc := (Kd.R_reads' HM3.out).2.1
  clear HM3 HM
  have HW3 := Aside0.mk HW.out.2
  go_upto_region 6 with (fail)
  go_cut [14, 15, 29, 30, 31, 32, 33, 34, 35, 36, 37, 38] (fun v14 v15 _ _ _ _ _ _ _ _ _ _ wc => ∃ g oc, v14 = .pointer (some ⟨g, 0, none⟩) ∧ v15 = .bool r1.isSome ∧ Aside0 (wc.heap[g]? = some (.cells oc 52 (0, 0))) ∧ Aside0 (SeenC x w.heap.size r1 oc wc) ∧ Aside0 (Below W3.heap.size W3 wc))
  case first =>
   refine start_ (n := 13) (S := fun w' => Below W3.heap.size W3 w') (ds := [11]) #[false, false, false, false, false, false, false, false, false, false, false, false, false] (by kernel_rfl) rfl rfl (below_drew1 (Below.refl _ _)) (fun hHeld => ?_)
   refine with_tabW belfrylaw11_PolicyMore.tab6 belfrylaw11_PolicyMore.bits6 (fun HT_ HW_ => ?_)
   generalize W3.drew = W0 at hHeld ⊢
   refine pure_ (i := 0) (N := some 30) (v := ?_) (a' := ?_) #[true, false, false, false, false, false, false, false, false, false, false, false, false] rfl rfl (any_of HT_.out (by kernel_rfl)) (fun _ _ _ h => h) (Or.inl ⟨by rfl, ?_⟩) ?_ ?_
   rotate_left
   ·
    intro w'
    go_simp
    with_reducible rfl
   rotate_left
   ·
    simp only [Act.put, List.setIfInBounds_toArray, List.set_cons_zero, List.set_cons_succ, i64_w, i32_w]
    rfl
   refine pure_ (i := 1) (N := some 31) (v := ?_) (a' := ?_) #[true, true, false, false, false, false, false, false, false, false, false, false, false] rfl rfl (any_of HT_.out (by kernel_rfl)) (fun _ _ _ h => h) (Or.inl ⟨by rfl, ?_⟩) ?_ ?_
   rotate_left
   ·
    intro w'
    go_simp
    with_reducible rfl
   rotate_left
   ·
    simp only [Act.put, List.setIfInBounds_toArray, List.set_cons_zero, List.set_cons_succ, i64_w, i32_w]
    rfl
   refine pure_ (i := 2) (N := some 32) (v := ?_) (a' := ?_) #[true, true, true, false, false, false, false, false, false, false, false, false, false] rfl rfl (any_of HT_.out (by kernel_rfl)) (fun _ _ _ h => h) (Or.inl ⟨by rfl, ?_⟩) ?_ ?_
   rotate_left
   ·
    intro w'
    go_simp
    with_reducible rfl
   rotate_left
   ·
    simp only [Act.put, List.setIfInBounds_toArray, List.set_cons_zero, List.set_cons_succ, i64_w, i32_w]
    rfl
   refine pure_ (i := 3) (N := some 33) (v := ?_) (a' := ?_) #[true, true, true, true, false, false, false, false, false, false, false, false, false] rfl rfl (any_of HT_.out (by kernel_rfl)) (fun _ _ _ h => h) (Or.inl ⟨by rfl, ?_⟩) ?_ ?_
   rotate_left
   ·
    intro w'
    go_simp
    with_reducible rfl
   rotate_left
   ·
    simp only [Act.put, List.setIfInBounds_toArray, List.set_cons_zero, List.set_cons_succ, i64_w, i32_w]
    rfl
   refine take_ (i := 5) (N := some 35) (v := ?_) (a' := ?_) #[true, true, true, true, false, true, false, false, false, false, false, false, false] rfl rfl (take_ofW HT_.out HW_.out (by kernel_rfl)) (fun _ _ _ h => h) (Or.inl ⟨by rfl, ?_⟩) hHeld ?_ ?_
   rotate_left
   ·
    rintro w' hw
    refine exec_load52 (x := .tmp 11) ?_ ?_ (blk_below HW3.out.1 hw) hs
    ·
     rfl
    ·
     rfl
   rotate_left
   ·
    simp only [Act.put, List.setIfInBounds_toArray, List.set_cons_zero, List.set_cons_succ, i64_w, i32_w]
    rfl
   refine two_ (i := 4) (j := 10) (Ni := some 34) (Nj := some 14) #[true, true, true, true, true, true, false, false, false, false, false, false, false] #[true, true, true, true, false, true, false, false, false, false, true, false, false] rfl rfl rfl rfl (two_of HT_.out (by kernel_rfl)) (by decide) (by decide) (fun K hK => ?_) (fun K hK => ?_)
   ·
    refine goes_ Tryz.func11 (by kernel_rfl) rfl #[.slice A l.length c, .string o, .string v, .int .i64 kd] (by rfl) rfl rfl (by (try simp only [List.map_toArray, List.map_cons, List.map_nil]); first | done | rfl) ?_
    refine (policy_Views.calls k A c l o v kd v1 _ (Kd.C_below (Kd.C_below HR.out HW3.out.2) hHeld) hc HF.out.pv1 (env_below HE.out (below_step HW3.out.2 hHeld))).mono ?_
    rintro e w2 ⟨uv, rfl, hRv, hd2⟩
    obtain ⟨AV, cV, rfl⟩ := Kd.R_slice hRv
    have HV := Aside0.mk (kV_C (Kd.R_reads' hRv).2.2)
    have hvc := (Kd.R_reads' hRv).2.1
    clear hRv
    refine ⟨_, rfl, ?_⟩
    refine hK.out _ _ (below_step hHeld hd2) (fun hHeld => ?_)
    clear hK K hd2
    refine norm_ (a' := ?_) ?_ ?_
    rotate_left
    ·
     show Act.put _ (some 34) _ = _
     simp only [Act.put, List.setIfInBounds_toArray, List.set_cons_zero, List.set_cons_succ, i64_w, i32_w]
     rfl
    refine two_ (i := 6) (j := 10) (Ni := some 36) (Nj := some 14) #[true, true, true, true, true, true, true, false, false, false, false, false, false] #[true, true, true, true, true, true, false, false, false, false, true, false, false] rfl rfl rfl rfl (two_of HT_.out (by kernel_rfl)) (by decide) (by decide) (fun K hK => ?_) (fun K hK => ?_)
    ·
     refine goes_ Tryz.func25 (by kernel_rfl) rfl #[.slice AV v1.length cV, .agg cs] (by rfl) rfl rfl (by (try simp only [List.map_toArray, List.map_cons, List.map_nil]); first | done | rfl) ?_
     refine (policy_Sees.calls k AV cV v1 cs B cb ts r1 _ HV.out hvc hs h1 h2 (Kd.C_below (Kd.C_below HA.out HW3.out.2) hHeld) hac HF.out.s1 (env_below HE.out (below_step HW3.out.2 hHeld))).mono ?_
     rintro e w3 ⟨hSeen, hd2⟩
     rw [HCS.out] at hSeen
     obtain ⟨oc, rfl, hS⟩ := seen_out hSeen
     have HS := Aside0.mk (hS.lower (Nat.le_trans HW3.out.2.size hHeld.size))
     have hso := hS.size HX.out
     clear hS hSeen
     refine ⟨_, rfl, ?_⟩
     refine hK.out _ _ (below_step hHeld hd2) (fun hHeld => ?_)
     clear hK K hd2 HV hvc
     refine norm_ (a' := ?_) ?_ ?_
     rotate_left
     ·
      show Act.put _ (some 36) _ = _
      simp only [Act.put, List.setIfInBounds_toArray, List.set_cons_zero, List.set_cons_succ, i64_w, i32_w]
      rfl
     refine pure_ (i := 7) (N := some 29) (v := ?_) (a' := ?_) #[true, true, true, true, true, true, true, true, false, false, false, false, false] rfl rfl (any_of HT_.out (by kernel_rfl)) (fun _ _ _ h => h) (Or.inl ⟨by rfl, ?_⟩) ?_ ?_
     rotate_left
     ·
      intro w'
      go_simp
      with_reducible rfl
     rotate_left
     ·
      simp only [Act.put, List.setIfInBounds_toArray, List.set_cons_zero, List.set_cons_succ, i64_w, i32_w]
      rfl
     refine pure_ (i := 8) (N := some 37) (v := ?_) (a' := ?_) #[true, true, true, true, true, true, true, true, true, false, false, false, false] rfl rfl (any_of HT_.out (by kernel_rfl)) (fun _ _ _ h => h) (Or.inl ⟨by rfl, ?_⟩) ?_ ?_
     rotate_left
     ·
      intro w'
      go_simp
      with_reducible rfl
     rotate_left
     ·
      simp only [Act.put, List.setIfInBounds_toArray, List.set_cons_zero, List.set_cons_succ, i64_w, i32_w]
      rfl
     refine pure_ (i := 9) (N := some 38) (v := ?_) (a' := ?_) #[true, true, true, true, true, true, true, true, true, true, false, false, false] rfl rfl (any_of HT_.out (by kernel_rfl)) (fun _ _ _ h => h) (Or.inl ⟨by rfl, ?_⟩) ?_ ?_
     rotate_left
     ·
      intro w'
      go_simp
      with_reducible rfl
     rotate_left
     ·
      simp only [Act.put, List.setIfInBounds_toArray, List.set_cons_zero, List.set_cons_succ, i64_w, i32_w]
      rfl
     have hgz : W3.heap.size ≤ w3.heap.size := hHeld.size
     refine one_ (i := 10) (N := some 14) #[true, true, true, true, true, true, true, true, true, true, true, false, false] rfl rfl (one_of HT_.out (by kernel_rfl)) (by decide) (fun K hK => ?_)
     refine value_ (w1 := w3.alloc (.cells z52 52)) (v := (.pointer (some ⟨w3.heap.size, 0, none⟩))) (by rfl) rfl (by go_simp; rfl) ?_
     refine hK.out _ _ (hHeld.alloc hHeld.size _) (fun hHeld => ?_)
     clear hK K
     refine norm_ (a' := ?_) ?_ ?_
     rotate_left
     ·
      show Act.put _ (some 14) _ = _
      simp only [Act.put, List.setIfInBounds_toArray, List.set_cons_zero, List.set_cons_succ, i64_w, i32_w]
      rfl
     have HZ := Aside0.mk (blk_new w3 (.cells z52 52))
     replace HS := Aside0.mk (HS.out.below ((Below.refl w3.heap.size w3).alloc (Nat.le_refl _) (.cells z52 52)))
     generalize w3.heap.size = g at HZ hgz ⊢
     generalize w3.alloc (.cells z52 52) = Wz3 at HZ hHeld HS ⊢
     refine last_ (i := 11) (N := none) #[true, true, true, true, true, true, true, true, true, true, true, true, false] rfl rfl (one_of HT_.out (by kernel_rfl)) (by decide) (fun K hK => ?_)
     refine skip_ (w1 := Wz3.setRow g oc) (by rfl) rfl (by refine exec_store52 (x := .tmp 14) (y := .tmp 37) ?_ ?_ ?_ HZ.out hso.1 rfl hso.2 <;> rfl) ?_
     refine hK.out _ _ ?_
     clear hK K
     refine pure_ (i := 12) (N := some 15) (v := ?_) (a' := ?_) #[true, true, true, true, true, true, true, true, true, true, true, true, true] rfl rfl (any_of HT_.out (by kernel_rfl)) (fun _ _ _ h => h) (Or.inl ⟨by rfl, ?_⟩) ?_ ?_
     rotate_left
     ·
      intro w'
      go_simp
      with_reducible rfl
     rotate_left
     ·
      simp only [Act.put, List.setIfInBounds_toArray, List.set_cons_zero, List.set_cons_succ, i64_w, i32_w]
      rfl
     refine done_ (done_of HT_.out (by kernel_rfl)) ?_
     go_wp2
     go_meet
     case rel => exact ⟨g, oc, rfl, rfl, ⟨blk_setRow HZ.out⟩, ⟨HS.out.setRow HZ.out _⟩, ⟨below_setRow hHeld hgz _⟩⟩
    ·
     have hgz : W3.heap.size ≤ w2.heap.size := hHeld.size
     refine value_ (w1 := w2.alloc (.cells z52 52)) (v := (.pointer (some ⟨w2.heap.size, 0, none⟩))) (by rfl) rfl (by go_simp; rfl) ?_
     refine hK.out _ _ (hHeld.alloc hHeld.size _) (fun hHeld => ?_)
     clear hK K
     refine norm_ (a' := ?_) ?_ ?_
     rotate_left
     ·
      show Act.put _ (some 14) _ = _
      simp only [Act.put, List.setIfInBounds_toArray, List.set_cons_zero, List.set_cons_succ, i64_w, i32_w]
      rfl
     have HZ := Aside0.mk (blk_new w2 (.cells z52 52))
     have HZB := Aside0.mk ((Below.refl w2.heap.size w2).alloc (Nat.le_refl _) (.cells z52 52))
     generalize w2.heap.size = g at HZ hgz ⊢
     generalize w2.alloc (.cells z52 52) = Wz2 at HZ hHeld HZB ⊢
     refine one_ (i := 6) (N := some 36) #[true, true, true, true, true, true, true, false, false, false, true, false, false] rfl rfl (one_of HT_.out (by kernel_rfl)) (by decide) (fun K hK => ?_)
     refine goes_ Tryz.func25 (by kernel_rfl) rfl #[.slice AV v1.length cV, .agg cs] (by rfl) rfl rfl (by (try simp only [List.map_toArray, List.map_cons, List.map_nil]); first | done | rfl) ?_
     refine (policy_Sees.calls k AV cV v1 cs B cb ts r1 _ (Kd.C_below HV.out HZB.out) hvc hs h1 h2 (Kd.C_below (Kd.C_below HA.out HW3.out.2) hHeld) hac HF.out.s1 (env_below HE.out (below_step HW3.out.2 hHeld))).mono ?_
     rintro e w3 ⟨hSeen, hd2⟩
     rw [HCS.out] at hSeen
     obtain ⟨oc, rfl, hS⟩ := seen_out hSeen
     have HS := Aside0.mk (hS.lower (Nat.le_trans HW3.out.2.size hHeld.size))
     have hso := hS.size HX.out
     clear hS hSeen
     replace HZ := Aside0.mk (blk_below HZ.out hd2)
     refine ⟨_, rfl, ?_⟩
     refine hK.out _ _ (below_step hHeld hd2) (fun hHeld => ?_)
     clear hK K hd2 HV hvc HZB
     refine norm_ (a' := ?_) ?_ ?_
     rotate_left
     ·
      show Act.put _ (some 36) _ = _
      simp only [Act.put, List.setIfInBounds_toArray, List.set_cons_zero, List.set_cons_succ, i64_w, i32_w]
      rfl
     refine pure_ (i := 7) (N := some 29) (v := ?_) (a' := ?_) #[true, true, true, true, true, true, true, true, false, false, true, false, false] rfl rfl (any_of HT_.out (by kernel_rfl)) (fun _ _ _ h => h) (Or.inl ⟨by rfl, ?_⟩) ?_ ?_
     rotate_left
     ·
      intro w'
      go_simp
      with_reducible rfl
     rotate_left
     ·
      simp only [Act.put, List.setIfInBounds_toArray, List.set_cons_zero, List.set_cons_succ, i64_w, i32_w]
      rfl
     refine pure_ (i := 8) (N := some 37) (v := ?_) (a' := ?_) #[true, true, true, true, true, true, true, true, true, false, true, false, false] rfl rfl (any_of HT_.out (by kernel_rfl)) (fun _ _ _ h => h) (Or.inl ⟨by rfl, ?_⟩) ?_ ?_
     rotate_left
     ·
      intro w'
      go_simp
      with_reducible rfl
     rotate_left
     ·
      simp only [Act.put, List.setIfInBounds_toArray, List.set_cons_zero, List.set_cons_succ, i64_w, i32_w]
      rfl
     refine pure_ (i := 9) (N := some 38) (v := ?_) (a' := ?_) #[true, true, true, true, true, true, true, true, true, true, true, false, false] rfl rfl (any_of HT_.out (by kernel_rfl)) (fun _ _ _ h => h) (Or.inl ⟨by rfl, ?_⟩) ?_ ?_
     rotate_left
     ·
      intro w'
      go_simp
      with_reducible rfl
     rotate_left
     ·
      simp only [Act.put, List.setIfInBounds_toArray, List.set_cons_zero, List.set_cons_succ, i64_w, i32_w]
      rfl
     refine last_ (i := 11) (N := none) #[true, true, true, true, true, true, true, true, true, true, true, true, false] rfl rfl (one_of HT_.out (by kernel_rfl)) (by decide) (fun K hK => ?_)
     refine skip_ (w1 := w3.setRow g oc) (by rfl) rfl (by refine exec_store52 (x := .tmp 14) (y := .tmp 37) ?_ ?_ ?_ HZ.out hso.1 rfl hso.2 <;> rfl) ?_
     refine hK.out _ _ ?_
     clear hK K
     refine pure_ (i := 12) (N := some 15) (v := ?_) (a' := ?_) #[true, true, true, true, true, true, true, true, true, true, true, true, true] rfl rfl (any_of HT_.out (by kernel_rfl)) (fun _ _ _ h => h) (Or.inl ⟨by rfl, ?_⟩) ?_ ?_
     rotate_left
     ·
      intro w'
      go_simp
      with_reducible rfl
     rotate_left
     ·
      simp only [Act.put, List.setIfInBounds_toArray, List.set_cons_zero, List.set_cons_succ, i64_w, i32_w]
      rfl
     refine done_ (done_of HT_.out (by kernel_rfl)) ?_
     go_wp2
     go_meet
     case rel => exact ⟨g, oc, rfl, rfl, ⟨blk_setRow HZ.out⟩, ⟨HS.out.setRow HZ.out _⟩, ⟨below_setRow hHeld hgz _⟩⟩
   ·
    have hgz : W3.heap.size ≤ W0.heap.size := hHeld.size
    refine value_ (w1 := W0.alloc (.cells z52 52)) (v := (.pointer (some ⟨W0.heap.size, 0, none⟩))) (by rfl) rfl (by go_simp; rfl) ?_
    refine hK.out _ _ (hHeld.alloc hHeld.size _) (fun hHeld => ?_)
    clear hK K
    refine norm_ (a' := ?_) ?_ ?_
    rotate_left
    ·
     show Act.put _ (some 14) _ = _
     simp only [Act.put, List.setIfInBounds_toArray, List.set_cons_zero, List.set_cons_succ, i64_w, i32_w]
     rfl
    have HZ := Aside0.mk (blk_new W0 (.cells z52 52))
    generalize W0.heap.size = g at HZ hgz ⊢
    generalize W0.alloc (.cells z52 52) = Wz1 at HZ hHeld ⊢
    refine one_ (i := 4) (N := some 34) #[true, true, true, true, true, true, false, false, false, false, true, false, false] rfl rfl (one_of HT_.out (by kernel_rfl)) (by decide) (fun K hK => ?_)
    refine goes_ Tryz.func11 (by kernel_rfl) rfl #[.slice A l.length c, .string o, .string v, .int .i64 kd] (by rfl) rfl rfl (by (try simp only [List.map_toArray, List.map_cons, List.map_nil]); first | done | rfl) ?_
    refine (policy_Views.calls k A c l o v kd v1 _ (Kd.C_below (Kd.C_below HR.out HW3.out.2) hHeld) hc HF.out.pv1 (env_below HE.out (below_step HW3.out.2 hHeld))).mono ?_
    rintro e w2 ⟨uv, rfl, hRv, hd2⟩
    obtain ⟨AV, cV, rfl⟩ := Kd.R_slice hRv
    have HV := Aside0.mk (kV_C (Kd.R_reads' hRv).2.2)
    have hvc := (Kd.R_reads' hRv).2.1
    clear hRv
    replace HZ := Aside0.mk (blk_below HZ.out hd2)
    refine ⟨_, rfl, ?_⟩
    refine hK.out _ _ (below_step hHeld hd2) (fun hHeld => ?_)
    clear hK K hd2
    refine norm_ (a' := ?_) ?_ ?_
    rotate_left
    ·
     show Act.put _ (some 34) _ = _
     simp only [Act.put, List.setIfInBounds_toArray, List.set_cons_zero, List.set_cons_succ, i64_w, i32_w]
     rfl
    refine one_ (i := 6) (N := some 36) #[true, true, true, true, true, true, true, false, false, false, true, false, false] rfl rfl (one_of HT_.out (by kernel_rfl)) (by decide) (fun K hK => ?_)
    refine goes_ Tryz.func25 (by kernel_rfl) rfl #[.slice AV v1.length cV, .agg cs] (by rfl) rfl rfl (by (try simp only [List.map_toArray, List.map_cons, List.map_nil]); first | done | rfl) ?_
    refine (policy_Sees.calls k AV cV v1 cs B cb ts r1 _ HV.out hvc hs h1 h2 (Kd.C_below (Kd.C_below HA.out HW3.out.2) hHeld) hac HF.out.s1 (env_below HE.out (below_step HW3.out.2 hHeld))).mono ?_
    rintro e w3 ⟨hSeen, hd2⟩
    rw [HCS.out] at hSeen
    obtain ⟨oc, rfl, hS⟩ := seen_out hSeen
    have HS := Aside0.mk (hS.lower (Nat.le_trans HW3.out.2.size hHeld.size))
    have hso := hS.size HX.out
    clear hS hSeen
    replace HZ := Aside0.mk (blk_below HZ.out hd2)
    refine ⟨_, rfl, ?_⟩
    refine hK.out _ _ (below_step hHeld hd2) (fun hHeld => ?_)
    clear hK K hd2 HV hvc
    refine norm_ (a' := ?_) ?_ ?_
    rotate_left
    ·
     show Act.put _ (some 36) _ = _
     simp only [Act.put, List.setIfInBounds_toArray, List.set_cons_zero, List.set_cons_succ, i64_w, i32_w]
     rfl
    refine pure_ (i := 7) (N := some 29) (v := ?_) (a' := ?_) #[true, true, true, true, true, true, true, true, false, false, true, false, false] rfl rfl (any_of HT_.out (by kernel_rfl)) (fun _ _ _ h => h) (Or.inl ⟨by rfl, ?_⟩) ?_ ?_
    rotate_left
    ·
     intro w'
     go_simp
     with_reducible rfl
    rotate_left
    ·
     simp only [Act.put, List.setIfInBounds_toArray, List.set_cons_zero, List.set_cons_succ, i64_w, i32_w]
     rfl
    refine pure_ (i := 8) (N := some 37) (v := ?_) (a' := ?_) #[true, true, true, true, true, true, true, true, true, false, true, false, false] rfl rfl (any_of HT_.out (by kernel_rfl)) (fun _ _ _ h => h) (Or.inl ⟨by rfl, ?_⟩) ?_ ?_
    rotate_left
    ·
     intro w'
     go_simp
     with_reducible rfl
    rotate_left
    ·
     simp only [Act.put, List.setIfInBounds_toArray, List.set_cons_zero, List.set_cons_succ, i64_w, i32_w]
     rfl
    refine pure_ (i := 9) (N := some 38) (v := ?_) (a' := ?_) #[true, true, true, true, true, true, true, true, true, true, true, false, false] rfl rfl (any_of HT_.out (by kernel_rfl)) (fun _ _ _ h => h) (Or.inl ⟨by rfl, ?_⟩) ?_ ?_
    rotate_left
    ·
     intro w'
     go_simp
     with_reducible rfl
    rotate_left
    ·
     simp only [Act.put, List.setIfInBounds_toArray, List.set_cons_zero, List.set_cons_succ, i64_w, i32_w]
     rfl
    refine last_ (i := 11) (N := none) #[true, true, true, true, true, true, true, true, true, true, true, true, false] rfl rfl (one_of HT_.out (by kernel_rfl)) (by decide) (fun K hK => ?_)
    refine skip_ (w1 := w3.setRow g oc) (by rfl) rfl (by refine exec_store52 (x := .tmp 14) (y := .tmp 37) ?_ ?_ ?_ HZ.out hso.1 rfl hso.2 <;> rfl) ?_
    refine hK.out _ _ ?_
    clear hK K
    refine pure_ (i := 12) (N := some 15) (v := ?_) (a' := ?_) #[true, true, true, true, true, true, true, true, true, true, true, true, true] rfl rfl (any_of HT_.out (by kernel_rfl)) (fun _ _ _ h => h) (Or.inl ⟨by rfl, ?_⟩) ?_ ?_
    rotate_left
    ·
     intro w'
     go_simp
     with_reducible rfl
    rotate_left
    ·
     simp only [Act.put, List.setIfInBounds_toArray, List.set_cons_zero, List.set_cons_succ, i64_w, i32_w]
     rfl
    refine done_ (done_of HT_.out (by kernel_rfl)) ?_
    go_wp2
    go_meet
    case rel => exact ⟨g, oc, rfl, rfl, ⟨blk_setRow HZ.out⟩, ⟨HS.out.setRow HZ.out _⟩, ⟨below_setRow hHeld hgz _⟩⟩
  clear HR hc
  obtain ⟨g1, oc1, rfl, rfl, HG1, HS1, HLB⟩ := hcut
  have HW4 : Aside0 (wc.heap[w.heap.size]? = some (.cells #[.bool mr.f0, .int .i64 mr.f1, .string mr.f2, .slice A3 mr.f3.length c3, .slice A4 mr.f4.length c4] 46 (0, 0)) ∧ wc.heap[w.heap.size + 1]? = some (.cells cs 52 (0, 0)) ∧ Below w.heap.size w wc) :=
   ⟨blk_below HW.out.1 HLB.out, blk_below HW.out.2.1 HLB.out, below_step HW.out.2.2 HLB.out⟩
  go_upto_region 7 with (fail)
  have HW5 := Aside0.mk HW4.out.2
  go_cut [16, 17, 39, 40, 41, 42, 43, 44, 45, 46, 47, 48] (fun v16 v17 _ _ _ _ _ _ _ _ _ _ wd => ∃ g oc, v16 = .pointer (some ⟨g, 0, none⟩) ∧ v17 = .bool r2.isSome ∧ Aside0 (wd.heap[g]? = some (.cells oc 52 (0, 0))) ∧ Aside0 (SeenC x w.heap.size r2 oc wd) ∧ Aside0 (Below wc.heap.size wc wd))
  case first =>
   refine start_ (n := 13) (S := fun w' => Below wc.heap.size wc w') (ds := [11]) #[false, false, false, false, false, false, false, false, false, false, false, false, false] (by kernel_rfl) rfl rfl (below_drew1 (Below.refl _ _)) (fun hHeld => ?_)
   refine with_tabW belfrylaw11_PolicyMore.tab7 belfrylaw11_PolicyMore.bits7 (fun HT_ HW_ => ?_)
   generalize wc.drew = W0 at hHeld ⊢
   refine pure_ (i := 0) (N := some 40) (v := ?_) (a' := ?_) #[true, false, false, false, false, false, false, false, false, false, false, false, false] rfl rfl (any_of HT_.out (by kernel_rfl)) (fun _ _ _ h => h) (Or.inl ⟨by rfl, ?_⟩) ?_ ?_
   rotate_left
   ·
    intro w'
    go_simp
    with_reducible rfl
   rotate_left
   ·
    simp only [Act.put, List.setIfInBounds_toArray, List.set_cons_zero, List.set_cons_succ, i64_w, i32_w]
    rfl
   refine pure_ (i := 1) (N := some 41) (v := ?_) (a' := ?_) #[true, true, false, false, false, false, false, false, false, false, false, false, false] rfl rfl (any_of HT_.out (by kernel_rfl)) (fun _ _ _ h => h) (Or.inl ⟨by rfl, ?_⟩) ?_ ?_
   rotate_left
   ·
    intro w'
    go_simp
    with_reducible rfl
   rotate_left
   ·
    simp only [Act.put, List.setIfInBounds_toArray, List.set_cons_zero, List.set_cons_succ, i64_w, i32_w]
    rfl
   refine pure_ (i := 2) (N := some 42) (v := ?_) (a' := ?_) #[true, true, true, false, false, false, false, false, false, false, false, false, false] rfl rfl (any_of HT_.out (by kernel_rfl)) (fun _ _ _ h => h) (Or.inl ⟨by rfl, ?_⟩) ?_ ?_
   rotate_left
   ·
    intro w'
    go_simp
    with_reducible rfl
   rotate_left
   ·
    simp only [Act.put, List.setIfInBounds_toArray, List.set_cons_zero, List.set_cons_succ, i64_w, i32_w]
    rfl
   refine pure_ (i := 3) (N := some 43) (v := ?_) (a' := ?_) #[true, true, true, true, false, false, false, false, false, false, false, false, false] rfl rfl (any_of HT_.out (by kernel_rfl)) (fun _ _ _ h => h) (Or.inl ⟨by rfl, ?_⟩) ?_ ?_
   rotate_left
   ·
    intro w'
    go_simp
    with_reducible rfl
   rotate_left
   ·
    simp only [Act.put, List.setIfInBounds_toArray, List.set_cons_zero, List.set_cons_succ, i64_w, i32_w]
    rfl
   refine take_ (i := 5) (N := some 45) (v := ?_) (a' := ?_) #[true, true, true, true, false, true, false, false, false, false, false, false, false] rfl rfl (take_ofW HT_.out HW_.out (by kernel_rfl)) (fun _ _ _ h => h) (Or.inl ⟨by rfl, ?_⟩) hHeld ?_ ?_
   rotate_left
   ·
    rintro w' hw
    refine exec_load52 (x := .tmp 11) ?_ ?_ (blk_below HW5.out.1 hw) hs
    ·
     rfl
    ·
     rfl
   rotate_left
   ·
    simp only [Act.put, List.setIfInBounds_toArray, List.set_cons_zero, List.set_cons_succ, i64_w, i32_w]
    rfl
   refine two_ (i := 4) (j := 10) (Ni := some 44) (Nj := some 16) #[true, true, true, true, true, true, false, false, false, false, false, false, false] #[true, true, true, true, false, true, false, false, false, false, true, false, false] rfl rfl rfl rfl (two_of HT_.out (by kernel_rfl)) (by decide) (by decide) (fun K hK => ?_) (fun K hK => ?_)
   ·
    refine goes_ Tryz.func11 (by kernel_rfl) rfl #[.slice Al lm.length cl, .string o, .string v, .int .i64 kd] (by rfl) rfl rfl (by (try simp only [List.map_toArray, List.map_cons, List.map_nil]); first | done | rfl) ?_
    refine (policy_Views.calls k Al cl lm o v kd v2 _ (Kd.C_below (Kd.C_below HL.out HLB.out) hHeld) hlc HP2.out (env_below HE.out (below_step HW5.out.2 hHeld))).mono ?_
    rintro e w2 ⟨uv, rfl, hRv, hd2⟩
    obtain ⟨AV, cV, rfl⟩ := Kd.R_slice hRv
    have HV := Aside0.mk (kV_C (Kd.R_reads' hRv).2.2)
    have hvc := (Kd.R_reads' hRv).2.1
    clear hRv
    refine ⟨_, rfl, ?_⟩
    refine hK.out _ _ (below_step hHeld hd2) (fun hHeld => ?_)
    clear hK K hd2
    refine norm_ (a' := ?_) ?_ ?_
    rotate_left
    ·
     show Act.put _ (some 44) _ = _
     simp only [Act.put, List.setIfInBounds_toArray, List.set_cons_zero, List.set_cons_succ, i64_w, i32_w]
     rfl
    refine two_ (i := 6) (j := 10) (Ni := some 46) (Nj := some 16) #[true, true, true, true, true, true, true, false, false, false, false, false, false] #[true, true, true, true, true, true, false, false, false, false, true, false, false] rfl rfl rfl rfl (two_of HT_.out (by kernel_rfl)) (by decide) (by decide) (fun K hK => ?_) (fun K hK => ?_)
    ·
     refine goes_ Tryz.func25 (by kernel_rfl) rfl #[.slice AV v2.length cV, .agg cs] (by rfl) rfl rfl (by (try simp only [List.map_toArray, List.map_cons, List.map_nil]); first | done | rfl) ?_
     refine (policy_Sees.calls k AV cV v2 cs B cb ts r2 _ HV.out hvc hs h1 h2 (Kd.C_below (Kd.C_below HA.out HW5.out.2) hHeld) hac HF.out.s2 (env_below HE.out (below_step HW5.out.2 hHeld))).mono ?_
     rintro e w3 ⟨hSeen, hd2⟩
     rw [HCS.out] at hSeen
     obtain ⟨oc, rfl, hS⟩ := seen_out hSeen
     have HS := Aside0.mk (hS.lower (Nat.le_trans HW5.out.2.size hHeld.size))
     have hso := hS.size HX.out
     clear hS hSeen
     refine ⟨_, rfl, ?_⟩
     refine hK.out _ _ (below_step hHeld hd2) (fun hHeld => ?_)
     clear hK K hd2 HV hvc
     refine norm_ (a' := ?_) ?_ ?_
     rotate_left
     ·
      show Act.put _ (some 46) _ = _
      simp only [Act.put, List.setIfInBounds_toArray, List.set_cons_zero, List.set_cons_succ, i64_w, i32_w]
      rfl
     refine pure_ (i := 7) (N := some 39) (v := ?_) (a' := ?_) #[true, true, true, true, true, true, true, true, false, false, false, false, false] rfl rfl (any_of HT_.out (by kernel_rfl)) (fun _ _ _ h => h) (Or.inl ⟨by rfl, ?_⟩) ?_ ?_
     rotate_left
     ·
      intro w'
      go_simp
      with_reducible rfl
     rotate_left
     ·
      simp only [Act.put, List.setIfInBounds_toArray, List.set_cons_zero, List.set_cons_succ, i64_w, i32_w]
      rfl
     refine pure_ (i := 8) (N := some 47) (v := ?_) (a' := ?_) #[true, true, true, true, true, true, true, true, true, false, false, false, false] rfl rfl (any_of HT_.out (by kernel_rfl)) (fun _ _ _ h => h) (Or.inl ⟨by rfl, ?_⟩) ?_ ?_
     rotate_left
     ·
      intro w'
      go_simp
      with_reducible rfl
     rotate_left
     ·
      simp only [Act.put, List.setIfInBounds_toArray, List.set_cons_zero, List.set_cons_succ, i64_w, i32_w]
      rfl
     refine pure_ (i := 9) (N := some 48) (v := ?_) (a' := ?_) #[true, true, true, true, true, true, true, true, true, true, false, false, false] rfl rfl (any_of HT_.out (by kernel_rfl)) (fun _ _ _ h => h) (Or.inl ⟨by rfl, ?_⟩) ?_ ?_
     rotate_left
     ·
      intro w'
      go_simp
      with_reducible rfl
     rotate_left
     ·
      simp only [Act.put, List.setIfInBounds_toArray, List.set_cons_zero, List.set_cons_succ, i64_w, i32_w]
      rfl
     have hgz : wc.heap.size ≤ w3.heap.size := hHeld.size
     refine one_ (i := 10) (N := some 16) #[true, true, true, true, true, true, true, true, true, true, true, false, false] rfl rfl (one_of HT_.out (by kernel_rfl)) (by decide) (fun K hK => ?_)
     refine value_ (w1 := w3.alloc (.cells z52 52)) (v := (.pointer (some ⟨w3.heap.size, 0, none⟩))) (by rfl) rfl (by go_simp; rfl) ?_
     refine hK.out _ _ (hHeld.alloc hHeld.size _) (fun hHeld => ?_)
     clear hK K
     refine norm_ (a' := ?_) ?_ ?_
     rotate_left
     ·
      show Act.put _ (some 16) _ = _
      simp only [Act.put, List.setIfInBounds_toArray, List.set_cons_zero, List.set_cons_succ, i64_w, i32_w]
      rfl
     have HZ := Aside0.mk (blk_new w3 (.cells z52 52))
     replace HS := Aside0.mk (HS.out.below ((Below.refl w3.heap.size w3).alloc (Nat.le_refl _) (.cells z52 52)))
     generalize w3.heap.size = g at HZ hgz ⊢
     generalize w3.alloc (.cells z52 52) = Wz3 at HZ hHeld HS ⊢
     refine last_ (i := 11) (N := none) #[true, true, true, true, true, true, true, true, true, true, true, true, false] rfl rfl (one_of HT_.out (by kernel_rfl)) (by decide) (fun K hK => ?_)
     refine skip_ (w1 := Wz3.setRow g oc) (by rfl) rfl (by refine exec_store52 (x := .tmp 16) (y := .tmp 47) ?_ ?_ ?_ HZ.out hso.1 rfl hso.2 <;> rfl) ?_
     refine hK.out _ _ ?_
     clear hK K
     refine pure_ (i := 12) (N := some 17) (v := ?_) (a' := ?_) #[true, true, true, true, true, true, true, true, true, true, true, true, true] rfl rfl (any_of HT_.out (by kernel_rfl)) (fun _ _ _ h => h) (Or.inl ⟨by rfl, ?_⟩) ?_ ?_
     rotate_left
     ·
      intro w'
      go_simp
      with_reducible rfl
     rotate_left
     ·
      simp only [Act.put, List.setIfInBounds_toArray, List.set_cons_zero, List.set_cons_succ, i64_w, i32_w]
      rfl
     refine done_ (done_of HT_.out (by kernel_rfl)) ?_
     go_wp2
     go_meet
     case rel => exact ⟨g, oc, rfl, rfl, ⟨blk_setRow HZ.out⟩, ⟨HS.out.setRow HZ.out _⟩, ⟨below_setRow hHeld hgz _⟩⟩
    ·
     have hgz : wc.heap.size ≤ w2.heap.size := hHeld.size
     refine value_ (w1 := w2.alloc (.cells z52 52)) (v := (.pointer (some ⟨w2.heap.size, 0, none⟩))) (by rfl) rfl (by go_simp; rfl) ?_
     refine hK.out _ _ (hHeld.alloc hHeld.size _) (fun hHeld => ?_)
     clear hK K
     refine norm_ (a' := ?_) ?_ ?_
     rotate_left
     ·
      show Act.put _ (some 16) _ = _
      simp only [Act.put, List.setIfInBounds_toArray, List.set_cons_zero, List.set_cons_succ, i64_w, i32_w]
      rfl
     have HZ := Aside0.mk (blk_new w2 (.cells z52 52))
     have HZB := Aside0.mk ((Below.refl w2.heap.size w2).alloc (Nat.le_refl _) (.cells z52 52))
     generalize w2.heap.size = g at HZ hgz ⊢
     generalize w2.alloc (.cells z52 52) = Wz2 at HZ hHeld HZB ⊢
     refine one_ (i := 6) (N := some 46) #[true, true, true, true, true, true, true, false, false, false, true, false, false] rfl rfl (one_of HT_.out (by kernel_rfl)) (by decide) (fun K hK => ?_)
     refine goes_ Tryz.func25 (by kernel_rfl) rfl #[.slice AV v2.length cV, .agg cs] (by rfl) rfl rfl (by (try simp only [List.map_toArray, List.map_cons, List.map_nil]); first | done | rfl) ?_
     refine (policy_Sees.calls k AV cV v2 cs B cb ts r2 _ (Kd.C_below HV.out HZB.out) hvc hs h1 h2 (Kd.C_below (Kd.C_below HA.out HW5.out.2) hHeld) hac HF.out.s2 (env_below HE.out (below_step HW5.out.2 hHeld))).mono ?_
     rintro e w3 ⟨hSeen, hd2⟩
     rw [HCS.out] at hSeen
     obtain ⟨oc, rfl, hS⟩ := seen_out hSeen
     have HS := Aside0.mk (hS.lower (Nat.le_trans HW5.out.2.size hHeld.size))
     have hso := hS.size HX.out
     clear hS hSeen
     replace HZ := Aside0.mk (blk_below HZ.out hd2)
     refine ⟨_, rfl, ?_⟩
     refine hK.out _ _ (below_step hHeld hd2) (fun hHeld => ?_)
     clear hK K hd2 HV hvc HZB
     refine norm_ (a' := ?_) ?_ ?_
     rotate_left
     ·
      show Act.put _ (some 46) _ = _
      simp only [Act.put, List.setIfInBounds_toArray, List.set_cons_zero, List.set_cons_succ, i64_w, i32_w]
      rfl
     refine pure_ (i := 7) (N := some 39) (v := ?_) (a' := ?_) #[true, true, true, true, true, true, true, true, false, false, true, false, false] rfl rfl (any_of HT_.out (by kernel_rfl)) (fun _ _ _ h => h) (Or.inl ⟨by rfl, ?_⟩) ?_ ?_
     rotate_left
     ·
      intro w'
      go_simp
      with_reducible rfl
     rotate_left
     ·
      simp only [Act.put, List.setIfInBounds_toArray, List.set_cons_zero, List.set_cons_succ, i64_w, i32_w]
      rfl
     refine pure_ (i := 8) (N := some 47) (v := ?_) (a' := ?_) #[true, true, true, true, true, true, true, true, true, false, true, false, false] rfl rfl (any_of HT_.out (by kernel_rfl)) (fun _ _ _ h => h) (Or.inl ⟨by rfl, ?_⟩) ?_ ?_
     rotate_left
     ·
      intro w'
      go_simp
      with_reducible rfl
     rotate_left
     ·
      simp only [Act.put, List.setIfInBounds_toArray, List.set_cons_zero, List.set_cons_succ, i64_w, i32_w]
      rfl
     refine pure_ (i := 9) (N := some 48) (v := ?_) (a' := ?_) #[true, true, true, true, true, true, true, true, true, true, true, false, false] rfl rfl (any_of HT_.out (by kernel_rfl)) (fun _ _ _ h => h) (Or.inl ⟨by rfl, ?_⟩) ?_ ?_
     rotate_left
     ·
      intro w'
      go_simp
      with_reducible rfl
     rotate_left
     ·
      simp only [Act.put, List.setIfInBounds_toArray, List.set_cons_zero, List.set_cons_succ, i64_w, i32_w]
      rfl
     refine last_ (i := 11) (N := none) #[true, true, true, true, true, true, true, true, true, true, true, true, false] rfl rfl (one_of HT_.out (by kernel_rfl)) (by decide) (fun K hK => ?_)
     refine skip_ (w1 := w3.setRow g oc) (by rfl) rfl (by refine exec_store52 (x := .tmp 16) (y := .tmp 47) ?_ ?_ ?_ HZ.out hso.1 rfl hso.2 <;> rfl) ?_
     refine hK.out _ _ ?_
     clear hK K
     refine pure_ (i := 12) (N := some 17) (v := ?_) (a' := ?_) #[true, true, true, true, true, true, true, true, true, true, true, true, true] rfl rfl (any_of HT_.out (by kernel_rfl)) (fun _ _ _ h => h) (Or.inl ⟨by rfl, ?_⟩) ?_ ?_
     rotate_left
     ·
      intro w'
      go_simp
      with_reducible rfl
     rotate_left
     ·
      simp only [Act.put, List.setIfInBounds_toArray, List.set_cons_zero, List.set_cons_succ, i64_w, i32_w]
      rfl
     refine done_ (done_of HT_.out (by kernel_rfl)) ?_
     go_wp2
     go_meet
     case rel => exact ⟨g, oc, rfl, rfl, ⟨blk_setRow HZ.out⟩, ⟨HS.out.setRow HZ.out _⟩, ⟨below_setRow hHeld hgz _⟩⟩
   ·
    have hgz : wc.heap.size ≤ W0.heap.size := hHeld.size
    refine value_ (w1 := W0.alloc (.cells z52 52)) (v := (.pointer (some ⟨W0.heap.size, 0, none⟩))) (by rfl) rfl (by go_simp; rfl) ?_
    refine hK.out _ _ (hHeld.alloc hHeld.size _) (fun hHeld => ?_)
    clear hK K
    refine norm_ (a' := ?_) ?_ ?_
    rotate_left
    ·
     show Act.put _ (some 16) _ = _
     simp only [Act.put, List.setIfInBounds_toArray, List.set_cons_zero, List.set_cons_succ, i64_w, i32_w]
     rfl
    have HZ := Aside0.mk (blk_new W0 (.cells z52 52))
    generalize W0.heap.size = g at HZ hgz ⊢
    generalize W0.alloc (.cells z52 52) = Wz1 at HZ hHeld ⊢
    refine one_ (i := 4) (N := some 44) #[true, true, true, true, true, true, false, false, false, false, true, false, false] rfl rfl (one_of HT_.out (by kernel_rfl)) (by decide) (fun K hK => ?_)
    refine goes_ Tryz.func11 (by kernel_rfl) rfl #[.slice Al lm.length cl, .string o, .string v, .int .i64 kd] (by rfl) rfl rfl (by (try simp only [List.map_toArray, List.map_cons, List.map_nil]); first | done | rfl) ?_
    refine (policy_Views.calls k Al cl lm o v kd v2 _ (Kd.C_below (Kd.C_below HL.out HLB.out) hHeld) hlc HP2.out (env_below HE.out (below_step HW5.out.2 hHeld))).mono ?_
    rintro e w2 ⟨uv, rfl, hRv, hd2⟩
    obtain ⟨AV, cV, rfl⟩ := Kd.R_slice hRv
    have HV := Aside0.mk (kV_C (Kd.R_reads' hRv).2.2)
    have hvc := (Kd.R_reads' hRv).2.1
    clear hRv
    replace HZ := Aside0.mk (blk_below HZ.out hd2)
    refine ⟨_, rfl, ?_⟩
    refine hK.out _ _ (below_step hHeld hd2) (fun hHeld => ?_)
    clear hK K hd2
    refine norm_ (a' := ?_) ?_ ?_
    rotate_left
    ·
     show Act.put _ (some 44) _ = _
     simp only [Act.put, List.setIfInBounds_toArray, List.set_cons_zero, List.set_cons_succ, i64_w, i32_w]
     rfl
    refine one_ (i := 6) (N := some 46) #[true, true, true, true, true, true, true, false, false, false, true, false, false] rfl rfl (one_of HT_.out (by kernel_rfl)) (by decide) (fun K hK => ?_)
    refine goes_ Tryz.func25 (by kernel_rfl) rfl #[.slice AV v2.length cV, .agg cs] (by rfl) rfl rfl (by (try simp only [List.map_toArray, List.map_cons, List.map_nil]); first | done | rfl) ?_
    refine (policy_Sees.calls k AV cV v2 cs B cb ts r2 _ HV.out hvc hs h1 h2 (Kd.C_below (Kd.C_below HA.out HW5.out.2) hHeld) hac HF.out.s2 (env_below HE.out (below_step HW5.out.2 hHeld))).mono ?_
    rintro e w3 ⟨hSeen, hd2⟩
    rw [HCS.out] at hSeen
    obtain ⟨oc, rfl, hS⟩ := seen_out hSeen
    have HS := Aside0.mk (hS.lower (Nat.le_trans HW5.out.2.size hHeld.size))
    have hso := hS.size HX.out
    clear hS hSeen
    replace HZ := Aside0.mk (blk_below HZ.out hd2)
    refine ⟨_, rfl, ?_⟩
    refine hK.out _ _ (below_step hHeld hd2) (fun hHeld => ?_)
    clear hK K hd2 HV hvc
    refine norm_ (a' := ?_) ?_ ?_
    rotate_left
    ·
     show Act.put _ (some 46) _ = _
     simp only [Act.put, List.setIfInBounds_toArray, List.set_cons_zero, List.set_cons_succ, i64_w, i32_w]
     rfl
    refine pure_ (i := 7) (N := some 39) (v := ?_) (a' := ?_) #[true, true, true, true, true, true, true, true, false, false, true, false, false] rfl rfl (any_of HT_.out (by kernel_rfl)) (fun _ _ _ h => h) (Or.inl ⟨by rfl, ?_⟩) ?_ ?_
    rotate_left
    ·
     intro w'
     go_simp
     with_reducible rfl
    rotate_left
    ·
     simp only [Act.put, List.setIfInBounds_toArray, List.set_cons_zero, List.set_cons_succ, i64_w, i32_w]
     rfl
    refine pure_ (i := 8) (N := some 47) (v := ?_) (a' := ?_) #[true, true, true, true, true, true, true, true, true, false, true, false, false] rfl rfl (any_of HT_.out (by kernel_rfl)) (fun _ _ _ h => h) (Or.inl ⟨by rfl, ?_⟩) ?_ ?_
    rotate_left
    ·
     intro w'
     go_simp
     with_reducible rfl
    rotate_left
    ·
     simp only [Act.put, List.setIfInBounds_toArray, List.set_cons_zero, List.set_cons_succ, i64_w, i32_w]
     rfl
    refine pure_ (i := 9) (N := some 48) (v := ?_) (a' := ?_) #[true, true, true, true, true, true, true, true, true, true, true, false, false] rfl rfl (any_of HT_.out (by kernel_rfl)) (fun _ _ _ h => h) (Or.inl ⟨by rfl, ?_⟩) ?_ ?_
    rotate_left
    ·
     intro w'
     go_simp
     with_reducible rfl
    rotate_left
    ·
     simp only [Act.put, List.setIfInBounds_toArray, List.set_cons_zero, List.set_cons_succ, i64_w, i32_w]
     rfl
    refine last_ (i := 11) (N := none) #[true, true, true, true, true, true, true, true, true, true, true, true, false] rfl rfl (one_of HT_.out (by kernel_rfl)) (by decide) (fun K hK => ?_)
    refine skip_ (w1 := w3.setRow g oc) (by rfl) rfl (by refine exec_store52 (x := .tmp 16) (y := .tmp 47) ?_ ?_ ?_ HZ.out hso.1 rfl hso.2 <;> rfl) ?_
    refine hK.out _ _ ?_
    clear hK K
    refine pure_ (i := 12) (N := some 17) (v := ?_) (a' := ?_) #[true, true, true, true, true, true, true, true, true, true, true, true, true] rfl rfl (any_of HT_.out (by kernel_rfl)) (fun _ _ _ h => h) (Or.inl ⟨by rfl, ?_⟩) ?_ ?_
    rotate_left
    ·
     intro w'
     go_simp
     with_reducible rfl
    rotate_left
    ·
     simp only [Act.put, List.setIfInBounds_toArray, List.set_cons_zero, List.set_cons_succ, i64_w, i32_w]
     rfl
    refine done_ (done_of HT_.out (by kernel_rfl)) ?_
    go_wp2
    go_meet
    case rel => exact ⟨g, oc, rfl, rfl, ⟨blk_setRow HZ.out⟩, ⟨HS.out.setRow HZ.out _⟩, ⟨below_setRow hHeld hgz _⟩⟩
  clear HL hlc HLB HW5 HW HW3
  obtain ⟨g2, oc2, rfl, rfl, HG2, HS2, HLD⟩ := hcut
  replace HG1 := Aside0.mk (blk_below HG1.out HLD.out)
  replace HS1 := Aside0.mk (HS1.out.below HLD.out)
  have HB := Aside0.mk (below_step HW4.out.2.2 HLD.out)
  have q0 : wc.cell? ⟨w.heap.size, 0, none⟩ = some (.bool mr.f0) := (blk_cell (blk_below HW4.out.1 HLD.out) 0).trans rfl
  have ho1 := HS1.out.size HX.out
  have ho2 := HS2.out.size HX.out
  clear HLD HW4
  cases hd : mr.f0 with
  | true =>
   rw [hd] at q0
   have hden := HF.out.den hd
   cases e2 : r2.isSome with
   | false =>
    go_wp2_with fail
    refine (known.calls kk wc HK.out (env_below HE.out HB.out)).mono ?_
    rintro e w9 ⟨rfl, hb9⟩
    go_wp2
    go_ret
    exact ⟨rfl, below_step HB.out hb9⟩
   | true =>
    have e1 := hden e2
    rw [e1]
    go_wp2_with fail
    refine (known.calls kk wc HK.out (env_below HE.out HB.out)).mono ?_
    rintro e w9 ⟨rfl, hb9⟩
    go_wp2
    go_ret
    exact ⟨rfl, below_step HB.out hb9⟩
  | false =>
   rw [hd] at q0
   have halw := HF.out.alw hd
   cases e1 : r1 with
   | none =>
    rw [Option.isSome_none]
    go_wp2_with fail
    refine (known.calls kk wc HK.out (env_below HE.out HB.out)).mono ?_
    rintro e w9 ⟨rfl, hb9⟩
    go_wp2
    go_ret
    exact ⟨rfl, below_step HB.out hb9⟩
   | some ys =>
    have e2 := halw ys e1
    rw [e2, Option.isSome_some]
    obtain ⟨A5, c5, rfl, hR5⟩ := HS1.out.some ys e1
    obtain ⟨A6, c6, rfl, hR6⟩ := HS2.out.some ys e2
    have HR5 := Aside0.mk hR5
    have HR6 := Aside0.mk hR6
    clear hR5 hR6 HS1 HS2
    go_wp2_with (first
     | refine wpList_load_on 52 (.tmp 14) rfl (by rfl) g1 rfl 52 _ (0, 0) _ HG1.out hu52 rfl (by rw [Rc.size HX.out]; kernel_rfl) ?_
     | refine wpList_load_on 52 (.tmp 16) rfl (by rfl) g2 rfl 52 _ (0, 0) _ HG2.out hu52 rfl (by rw [Rc.size HX.out]; kernel_rfl) ?_)
    refine (one_walk k x HX.out A5 A6 c5 c6 ys wc (Kd.R_reads' HR5.out).2.2 (Kd.R_reads' HR5.out).2.1 (Kd.R_reads' HR6.out).2.2 (Kd.R_reads' HR6.out).2.1 (HF.out.same ys e1)).mono ?_
    rintro e w8 ⟨rfl, hb8⟩
    replace HB := Aside0.mk (below_step HB.out hb8)
    clear hb8 HR5 HR6 HG1 HG2
    go_wp2_with fail
    refine (known.calls kk w8 HK.out (env_below HE.out HB.out)).mono ?_
    rintro e w9 ⟨rfl, hb9⟩
    go_wp2
    go_ret
    exact ⟨rfl, below_step HB.out hb9⟩
 ·
  have b0 : decide (200 < (l.length : Int)) = true := decide_eq_true (by omega)
  have b1 : decide (200 < l.length) = true := decide_eq_true (by omega)
  go_enter Tryz.func8, Tryz.ntmps8
  go_wp2_with fail
  refine (known.calls kk _ HK.out (env_alloc (env_alloc HE.out))).mono ?_
  rintro e w1 ⟨rfl, hb⟩
  go_wp2
  go_ret
  exact ⟨rfl, below_step (below_alloc (below_alloc (Below.refl _ _) _) _) hb⟩
end Go.Proofs.YtkedidjjhhjdbaaGreatDoor.Pr
end
section
set_option linter.unusedVariables false
set_option linter.unusedSimpArgs false
namespace Go.Proofs.YtkedidjjhhjdbaaGreatDoor.Pr
open Go.RowKit Go.Proofs.YtkedidjjhhjdbaaGreatDoorW.PrintWords Go.Proofs.YtkedidjjhhjdbaaGreatDoorW.PrintLast Go.Proofs.YtkedidjjhhjdbaaGreatDoorW.PrintMore
theorem known_at : belfrylaw11_known.f 60 = some true := by kernel_rfl
def valsB (B : Nat) (l : List S33) : Prop := ∀ m ∈ l, m.f2.size ≤ B
theorem bothL_vals {B : Nat} {a b : List S33} (ha : valsB B a) (hb : valsB B b) : valsB B (bothL a b).1 := by
 have hi : valsB B (insAllU [] (a ++ b)) := fun m hm => by
  rcases (insAllU_mem m (a ++ b) []).1 hm with h | h
  ·
   cases h
  ·
   exact (List.mem_append.1 h).elim (ha m) (hb m)
 unfold bothL
 split
 ·
  intro m hm; cases hm
 ·
  split
  ·
   exact hi
  ·
   intro m hm; cases hm
theorem denL_vals {B : Nat} : ∀ D : List S46, (∀ r ∈ D, valsB B r.f3) → valsB B (denL D).1
 | [], _ => fun m hm => by cases hm
 | r :: D, h => by
  have ih := denL_vals D (fun x hx => h x (List.mem_cons_of_mem _ hx))
  have hr := h r (List.mem_cons_self ..)
  rw [denL]
  cases e : r.f3 with
  | nil => exact ih
  | cons m t =>
   intro q hq
   rcases List.mem_cons.1 hq with rfl | hq
   ·
    exact hr m (by rw [e]; exact List.mem_cons_self ..)
   ·
    exact ih q hq
theorem viewsL_vals {B : Nat} (o : ByteArray) (nt : List S33) (hn : valsB B nt) : ∀ A : List S46, (∀ r ∈ A, valsB B r.f3) → ∀ x ∈ viewsL o nt A, valsB B x.f1
 | [], _ => fun x hx => by cases hx
 | r :: A, h => by
  have ih := viewsL_vals o nt hn A (fun x hx => h x (List.mem_cons_of_mem _ hx))
  rw [viewsL]
  split
  ·
   intro x hx
   rcases List.mem_cons.1 hx with rfl | hx
   ·
    exact bothL_vals (h r (List.mem_cons_self ..)) hn
   ·
    exact ih x hx
  ·
   exact ih
theorem viewsR_vals {B : Nat} (l : List S46) (o v : ByteArray) (kd : Int) (h : ∀ r ∈ l, valsB B r.f3) : ∀ x ∈ viewsR l o v kd, valsB B x.f1 := by
 unfold viewsR
 split
 ·
  intro x hx; cases hx
 ·
  split
  ·
   intro x hx
   rw [List.mem_singleton.1 hx]
   intro m hm; cases hm
  ·
   split
   ·
    intro x hx; cases hx
   ·
    exact viewsL_vals o _ (denL_vals _ (fun r hr => h r (List.mem_filter.1 (List.mem_filter.1 hr).1).1)) _ (fun r hr => h r (List.mem_filter.1 (List.mem_filter.1 hr).1).1)
theorem viewsR_V {l : List S46} (o v : ByteArray) (kd : Int) (h : ∀ r ∈ l, valsB 1048576 r.f3) : smallV (viewsR l o v kd) := fun x hx => by
 have h1 := (viewsR_small l o v kd).2 x hx
 exact ⟨⟨by omega, fun m hm => Nat.le_trans (viewsR_vals l o v kd h x hx m hm) (by omega)⟩, by omega⟩
theorem same_ev (r : Option (List S62)) (hr : ∀ ys, r = some ys → ys.length < 4611686018427387904) : ∃ K, ∀ k, K ≤ k → ∀ ys, r = some ys → belfryref04_Same.f k ys ys = some true := by
 cases r with
 | none => exact ⟨0, fun _ _ ys h => by cases h⟩
 | some ys =>
  obtain ⟨K, hK⟩ := sameA_refl ys (hr ys rfl)
  exact ⟨K, fun k hk zs hz => by cases hz; exact hK k hk⟩
theorem more_facts (l : List S46) (mr : S46) (o v : ByteArray) (kd : Int) (ts : List S62) (hl : ∀ r ∈ l, valsB 1048576 r.f3) (hm : valsB 1048576 mr.f3) (ht : ts.length ≤ 1048576) (hs : ∀ x ∈ ts, x.f1.size ≤ 1048576) :
  ∃ K, l.length ≤ 200 → ∃ v1 v2 r1 r2, MoF K l mr o v kd ts v1 v2 r1 r2 := by
 have hts : smallA ts := fun x hx => Nat.lt_of_le_of_lt (hs x hx) (by omega)
 have hlm : ∀ r ∈ l ++ [mr], valsB 1048576 r.f3 := fun r hr => (List.mem_append.1 hr).elim (hl r) (fun h => by rw [List.mem_singleton.1 h]; exact hm)
 by_cases h2 : l.length ≤ 200
 ·
  obtain ⟨K1, h1⟩ := views_ev l o v kd (by omega)
  obtain ⟨K2, h3⟩ := views_ev (l ++ [mr]) o v kd (by simp; omega)
  obtain ⟨K3, h4⟩ := sees_ev ts (by omega) hts (viewsR l o v kd) (viewsR_V o v kd hl)
  obtain ⟨K4, h5⟩ := sees_ev ts (by omega) hts (viewsR (l ++ [mr]) o v kd) (viewsR_V o v kd hlm)
  obtain ⟨K5, h6⟩ := same_ev (seesR ts (viewsR l o v kd)) (fun ys hy => by have := seesR_len ts _ ys hy; omega)
  refine ⟨K1 + K2 + K3 + K4 + K5, fun _ => ⟨viewsR l o v kd, viewsR (l ++ [mr]) o v kd, seesR ts (viewsR l o v kd), seesR ts (viewsR (l ++ [mr]) o v kd), ?_⟩⟩
  exact { pv1 := h1 _ (by omega), pv2 := h3 _ (by omega), s1 := h4 _ (by omega), s2 := h5 _ (by omega), den := fun hd h => more_den ts l mr o v kd hd h, alw := fun hd ys h => more_alw ts l mr o v kd hd ys h, same := h6 _ (by omega) }
 ·
  exact ⟨0, fun h => absurd h h2⟩
end Go.Proofs.YtkedidjjhhjdbaaGreatDoor.Pr
end
