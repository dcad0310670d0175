import Derived.Test.YtkedidjjhhjdbaaGreatDoorD0
import Derived.Test.YtkedidjjhhjdbaaGreatDoorD5
import Derived.Test.YtkedidjjhhjdbaaGreatDoorD3
import Derived.Test.YtkedidjjhhjdbaaGreatDoorD13
import Derived.Test.YtkedidjjhhjdbaaGreatDoorD15
import Derived.Test.YtkedidjjhhjdbaaGreatDoorD8
import Derived.Test.YtkedidjjhhjdbaaGreatDoorD10
import Derived.OpenShut
import Derived.Test.YtkedidjjhhjdbaaGreatDoorD9
import Derived.Test.YtkedidjjhhjdbaaGreatDoorD7
import Derived.Deep.MidRow
import Derived.Great.CaseRows
section
namespace Go.Proofs.YtkedidjjhhjdbaaGreatDoor.Pr
open Go.RowKit Go.Proofs.YtkedidjjhhjdbaaGreatDoorW.PrintWords Go.Proofs.YtkedidjjhhjdbaaGreatDoorW.PrintLast Go.Proofs.YtkedidjjhhjdbaaGreatDoorW.PrintMore
attribute [local go_sem] max2_int min2_int max_two min_two max_three min_three max_four min_four strGtr strLeq strGeq
set_option linter.unusedVariables false
set_option linter.unusedSimpArgs false
mutual
def policy_Parse.l0 : Nat → List (S46) → List ByteArray → Int → Int → Option ((List (S46)) × Int × Int)
  | 0, _, _, _, _ => none
  | k + 1, x5, x15, x16, x17 => if x17 < x16 then (if 0 ≤ x17 then (if x17 < (x15.length : Int) then (if (rdOf ByteArray.empty x15 x17).toList = ([] : List UInt8) then (policy_Parse.j1 k x5 x17 (rdOf ByteArray.empty x15 x17) x15 x16 x17 true) else (if 0 < ((rdOf ByteArray.empty x15 x17).size : Int) then (policy_Parse.j1 k x5 x17 (rdOf ByteArray.empty x15 x17) x15 x16 x17 ((bt (rdOf ByteArray.empty x15 x17) 0) == 35)) else (none))) else (none)) else (none)) else (some (x5, 0, 0))
def policy_Parse.j1 : Nat → List (S46) → Int → ByteArray → List ByteArray → Int → Int → Bool → Option ((List (S46)) × Int × Int)
  | 0, _, _, _, _, _, _, _ => none
  | k + 1, x5, x6, x7, x15, x16, x17, x28 => if x28 = true then (policy_Parse.l0 k x5 x15 x16 (wrap64 (x17 + 1))) else (if (x5.length : Int) ≥ 32 then (some (([] : List (S46)), 7, x6)) else ((policy_rule.f k x7).bind fun bt184 => (if bt184.2.2.2.2.2 = true then ((policy_Right.f k bt184.1 bt184.2.1 bt184.2.2.1 bt184.2.2.2.1 bt184.2.2.2.2.1).bind fun t195 => (if t195 = 0 then (if x5.length < 1759218604441 then (policy_Parse.l0 k (x5 ++ [(⟨bt184.1, bt184.2.1, bt184.2.2.1, bt184.2.2.2.1, bt184.2.2.2.2.1⟩ : S46)]) x15 x16 (wrap64 (x17 + 1))) else (none)) else (some (([] : List (S46)), t195, x6)))) else (some (([] : List (S46)), 110, x6)))))
end
def policy_Parse.f (k : Nat) (a0 : ByteArray) : Option ((List (S46)) × Int × Int) := if (a0.size : Int) > 65536 then (some (([] : List (S46)), 4, 0)) else ((strings_Split.f a0 (⟨#[10]⟩ : ByteArray)).bind fun t180 => (policy_Parse.l0 k ([] : List (S46)) t180 (t180.length : Int) 0))
set_option maxHeartbeats 8000000 in
set_option maxRecDepth 100000 in
theorem policy_Parse.calls (k : Nat) (a0 : ByteArray) (r1 : List (S46)) (r2 : Int) (r3 : Int) (w : World) (h : policy_Parse.f k a0 = some (r1, r2, r3)) (he_ : EnvW w := by repeat (first | with_reducible assumption | with_reducible exact env_of (by with_reducible assumption) (by with_reducible assumption) | with_reducible exact env_out (by with_reducible assumption) | with_reducible apply env_alloc | with_reducible apply env_drewN | with_reducible apply env_drew | with_reducible refine env_set ?_ (by with_reducible assumption) (by with_reducible assumption))) :
  Calls Tryz.prog 17 #[.string a0] w fun e w' => ∃ v0_ : Value, e = .returned (.tuple #[v0_, .int .i64 r2, .int .i64 r3]) ∧ Kd.S k46 46 w' w.heap.size (fun _ => True) v0_ r1 ∧ Below w.heap.size w w' := by
 have HE_ := Aside0.mk he_; clear he_; have hu46 := Tryz.underlying46; have HB := Aside0.mk (Below.refl w.heap.size w)
 have H : (if (a0.size : Int) > 65536 then (some (([] : List (S46)), 4, 0)) else ((strings_Split.f a0 (⟨#[10]⟩ : ByteArray)).bind fun t180 => (policy_Parse.l0 k ([] : List (S46)) t180 (t180.length : Int) 0))) = some (r1, r2, r3) := h
 clear h; by_cases c2 : (a0.size : Int) > 65536
 ·
  rw [if_pos c2] at H
  have c2b0 : decide (65536 < (a0.size : Int)) = true := decide_eq_true c2
  have c2b1 : decide (65536 < a0.size) = true := decide_eq_true (by omega)
  clear c2
  simp only [Option.some.injEq, Prod.mk.injEq] at H
  obtain ⟨rfl, rfl, rfl⟩ := H
  go_enter Tryz.func17, Tryz.ntmps17
  go_wp2; go_ret3
  exact ⟨_, eR, by first | exact Kd.S_nil _ _ _ _ _ | exact Kd.N_nil _ _ _ _ _ | exact Kd.V_nil _ _ _ _ _ | exact Kd.Q_nil _ _ _ _ _ | exact Kd.R_nil _ _ _ _ _, bO⟩
 rw [if_neg c2] at H
 have c2b0 : decide (65536 < (a0.size : Int)) = false := decide_eq_false c2
 have c2b1 : decide (65536 < a0.size) = false := decide_eq_false (by omega)
 clear c2
 replace H := Option.bind_eq_some_iff.mp H
 obtain ⟨t180, A30, H⟩ := H
 replace H : (policy_Parse.l0 k ([] : List (S46)) t180 (t180.length : Int) 0) = some (r1, r2, r3) := H
 have A3 := Aside0.mk A30; clear A30; have H' := Aside0.mk H; clear H
 go_enter Tryz.func17, Tryz.ntmps17
 go_wp2_with (first | ((with_reducible refine gate_callee (f := 41) rfl ?_); refine goesL_ (some 15) rfl rfl Tryz.func41 (by kernel_rfl) rfl #[.string a0, .string (⟨#[10]⟩ : ByteArray)] rfl lR ?_; (with_reducible refine (strings_Split.calls a0 (⟨#[10]⟩ : ByteArray) t180 _ A3.out).mono ?_); rintro e w4 ⟨v181, rfl, ho0, hb⟩; refine ⟨_, rfl, ?_⟩; have n0_ := Aside0.mk (Kd.R_lower ho0 (below_size bO)); have n1_ := Aside0.mk (below_step bO hb); clear HB; have HO182 := n0_; have HB := n1_; clear n0_ n1_; (try clear hb); (try clear hb2); (try clear hk); (try clear hi); (try clear ho0); obtain ⟨Ao5, co5, eo5⟩ := Kd.R_slice HO182.out; subst eo5))
 go_loopg [5, 17] k (fun kq v5 v17 w' => ∃ (x5_1 : List (S46)) (x17_1 : Int), v17 = .int .i64 x17_1 ∧ Aside0 (policy_Parse.l0 kq x5_1 t180 (t180.length : Int) x17_1 = some (r1, r2, r3)) ∧ Aside0 (kq ≤ k) ∧ Aside0 (Kd.S k46 46 w' w.heap.size (fun k_ => some k_ ≠ ((.slice Ao5 t180.length co5) : Value).ownBlock) v5 x5_1) ∧ Aside0 (Kd.R Kd.string 9 w' w.heap.size (fun _ => True) (.slice Ao5 t180.length co5) t180) ∧ Aside0 (Below w.heap.size w w'))
 case atStart => exact ⟨(([] : List (S46))), (0), sR, H', ⟨Nat.le_refl _⟩, ⟨by first | exact Kd.S_nil _ _ _ _ _ | exact Kd.N_nil _ _ _ _ _ | exact Kd.V_nil _ _ _ _ _ | exact Kd.Q_nil _ _ _ _ _ | exact Kd.R_nil _ _ _ _ _⟩, ⟨by (with_reducible repeat (first | apply Kd.R_alloc | apply Kd.R_drewN | apply Kd.R_drew)); exact HO182.out⟩, ⟨bO⟩⟩
 case round =>
  clear H'; (try clear c1); (try clear c2); (try clear c2b0); (try clear c2b1); (try clear p2); (try clear c4)
  obtain ⟨x5_1, x17_1, rfl, HA, HK1, HO_5, HO_15, HB⟩ := hrel
  cases gk with
  | zero => exact absurd HA.out (by simp [policy_Parse.l0])
  | succ k1 =>
   have H := HA.out; clear HA
   simp only [policy_Parse.l0] at H
   by_cases c6 : x17_1 < (t180.length : Int); rotate_left
   ·
    rw [if_neg c6] at H
    have c6b0 : decide (x17_1 < (t180.length : Int)) = false := decide_eq_false c6
    clear c6
    simp only [Option.some.injEq, Prod.mk.injEq] at H
    obtain ⟨rfl, rfl, rfl⟩ := H
    go_wp2; go_ret3
    exact ⟨_, eR, by (with_reducible repeat (first | apply Kd.S_alloc | apply Kd.S_drewN | apply Kd.S_drew)); exact Kd.S_mono HO_5.out (fun _ hk => trivial), bO⟩
   rw [if_pos c6] at H
   have c6b0 : decide (x17_1 < (t180.length : Int)) = true := decide_eq_true c6
   clear c6; by_cases c7 : 0 ≤ x17_1; rotate_left
   · rw [if_neg c7] at H; exact absurd H (by simp)
   rw [if_pos c7] at H
   have c7b0 : decide (0 ≤ x17_1) = true := decide_eq_true c7
   clear c7; by_cases c8 : x17_1 < (t180.length : Int); rotate_left
   · rw [if_neg c8] at H; exact absurd H (by simp)
   rw [if_pos c8] at H
   have c8b0 : decide (x17_1 < (t180.length : Int)) = true := decide_eq_true c8
   clear c8; have HC9 := Aside0.mk H; clear H
   have p183 : 0 ≤ (x17_1 : Int) := of_decide_eq_true asm
   have q183 : x17_1 < (t180.length : Int) := of_decide_eq_true asm
   obtain ⟨ad183, e183, hx183_0⟩ := Kd.at_string (Kd.R_reads' HO_15.out).2.2 x17_1 p183 q183
   cases e183; replace p183 := eq_true p183; replace q183 := eq_true q183
   go_upto_region 7 with (fail)
   go_cut [28] (fun v28 wc => ∃ (kq : Nat) (x28_8 : Bool), v28 = .bool x28_8 ∧ Aside0 (policy_Parse.j1 kq x5_1 x17_1 (rdOf ByteArray.empty t180 x17_1) t180 (t180.length : Int) x17_1 x28_8 = some (r1, r2, r3)) ∧ Aside0 (kq ≤ k1) ∧ Aside0 (Kd.S k46 46 wc w.heap.size (fun k_ => some k_ ≠ ((.slice (some ad183) t180.length co5) : Value).ownBlock) u5 x5_1) ∧ Aside0 (Kd.R Kd.string 9 wc w.heap.size (fun _ => True) (.slice (some ad183) t180.length co5) t180) ∧ Aside0 (Below w.heap.size w wc))
   case first =>
    have H := HC9.out; clear HC9; by_cases c10 : (rdOf ByteArray.empty t180 x17_1).toList = ([] : List UInt8)
    ·
     rw [if_pos c10] at H
     have c10b0 : ((rdOf ByteArray.empty t180 x17_1).toList == ([] : List UInt8)) = true := beq_iff_eq.mpr c10
     have c10b1 : ((rdOf ByteArray.empty t180 x17_1).toList != ([] : List UInt8)) = false := bne_eq_false_iff_eq.mpr c10
     clear c10
     (first | rw [c10b0] | (simp only [i64_w, i32_w]; rw [c10b0]) | skip)
     have H' := Aside0.mk H; clear H; go_wp2
     go_meet
     case rel => exact ⟨_, (true), sR, H', ⟨by have := HK1.out; first | omega | exact Nat.le_refl _⟩, ⟨by (with_reducible repeat (first | apply Kd.S_alloc | apply Kd.S_drewN | apply Kd.S_drew)); exact HO_5.out⟩, ⟨by (with_reducible repeat (first | apply Kd.R_alloc | apply Kd.R_drewN | apply Kd.R_drew)); exact HO_15.out⟩, ⟨bO⟩⟩
    rw [if_neg c10] at H
    have c10b0 : ((rdOf ByteArray.empty t180 x17_1).toList == ([] : List UInt8)) = false := beq_eq_false_iff_ne.mpr c10
    have c10b1 : ((rdOf ByteArray.empty t180 x17_1).toList != ([] : List UInt8)) = true := bne_iff_ne.mpr c10
    (first | rw [c10b0] | (simp only [i64_w, i32_w]; rw [c10b0]) | skip)
    by_cases c11 : 0 < ((rdOf ByteArray.empty t180 x17_1).size : Int); rotate_left
    · rw [if_neg c11] at H; exact absurd H (by simp)
    rw [if_pos c11] at H
    have c11b0 : decide (0 < ((rdOf ByteArray.empty t180 x17_1).size : Int)) = true := decide_eq_true c11
    have c11b1 : decide (0 < (rdOf ByteArray.empty t180 x17_1).size) = true := decide_eq_true (by omega)
    clear c11; have H' := Aside0.mk H; clear H
    have p12 : 0 ≤ (0 : Int) := (by omega)
    have q12 : 0 < (rdOf ByteArray.empty t180 x17_1).size := (by have : (0 : Int) < ((rdOf ByteArray.empty t180 x17_1).size : Int) := of_decide_eq_true asm; omega)
    have hx12 : ∀ h : 0 < (rdOf ByteArray.empty t180 x17_1).size, (((rdOf ByteArray.empty t180 x17_1)[0]'h).toNat : Int) = bt (rdOf ByteArray.empty t180 x17_1) 0 := bt_at (rdOf ByteArray.empty t180 x17_1) 0
    clear p12
    have qi12 : (0 < ((rdOf ByteArray.empty t180 x17_1).size : Int)) = True := eq_true (of_decide_eq_true asm)
    replace q12 := eq_true q12; go_wp2
    go_meet
    case rel => exact ⟨_, (((bt (rdOf ByteArray.empty t180 x17_1) 0) == 35)), sR, H', ⟨by have := HK1.out; first | omega | exact Nat.le_refl _⟩, ⟨by (with_reducible repeat (first | apply Kd.S_alloc | apply Kd.S_drewN | apply Kd.S_drew)); exact HO_5.out⟩, ⟨by (with_reducible repeat (first | apply Kd.R_alloc | apply Kd.R_drewN | apply Kd.R_drew)); exact HO_15.out⟩, ⟨bO⟩⟩
   case rest =>
    clear HC9; (try clear c1); (try clear p1); (try clear q1); (try clear hx1); (try clear qi1); (try clear c2); (try clear c2b0); (try clear c2b1); (try clear p2); (try clear c4); (try clear c6); (try clear c6b0); (try clear c7); (try clear c7b0); (try clear c8); (try clear c8b0); (try clear c10); (try clear c10b0); (try clear c10b1); (try clear c11); (try clear c11b0); (try clear c11b1); (try clear p12); (try clear q12); (try clear hx12); (try clear qi12); (try clear hx183_0); (try clear p12); (try clear p183); (try clear p2); (try clear q12); (try clear q183)
    obtain ⟨kq, x28_8, rfl, HA, HJ8, HO_5, HO_15, HB⟩ := hcut
    cases kq with
    | zero => exact absurd HA.out (by simp [policy_Parse.j1])
    | succ kj8 =>
     have H := HA.out; clear HA
     simp only [policy_Parse.j1] at H
     by_cases c13 : x28_8 = true
     ·
      subst c13
      have H1 : (policy_Parse.l0 kj8 x5_1 t180 (t180.length : Int) (wrap64 (x17_1 + 1))) = some (r1, r2, r3) := by rw [if_pos rfl] at H; exact H
      clear H; have H := H1; clear H1; have H' := Aside0.mk H; clear H; go_wp2
      go_roundg kj8
      case measure => have := HK1.out; have := HJ8.out; omega
      case rel => exact ⟨(x5_1), (wrap64 (x17_1 + 1)), sR, H', ⟨by have := HK1.out; have := HJ8.out; omega⟩, ⟨by (with_reducible repeat (first | apply Kd.S_alloc | apply Kd.S_drewN | apply Kd.S_drew)); exact HO_5.out⟩, ⟨by (with_reducible repeat (first | apply Kd.R_alloc | apply Kd.R_drewN | apply Kd.R_drew)); exact HO_15.out⟩, ⟨bO⟩⟩
     replace c13 := Bool.eq_false_iff.mpr c13
     subst c13
     have H1 : (if (x5_1.length : Int) ≥ 32 then (some (([] : List (S46)), 7, x17_1)) else ((policy_rule.f kj8 (rdOf ByteArray.empty t180 x17_1)).bind fun bt184 => (if bt184.2.2.2.2.2 = true then ((policy_Right.f kj8 bt184.1 bt184.2.1 bt184.2.2.1 bt184.2.2.2.1 bt184.2.2.2.2.1).bind fun t195 => (if t195 = 0 then (if x5_1.length < 1759218604441 then (policy_Parse.l0 kj8 (x5_1 ++ [(⟨bt184.1, bt184.2.1, bt184.2.2.1, bt184.2.2.2.1, bt184.2.2.2.2.1⟩ : S46)]) t180 (t180.length : Int) (wrap64 (x17_1 + 1))) else (none)) else (some (([] : List (S46)), t195, x17_1)))) else (some (([] : List (S46)), 110, x17_1))))) = some (r1, r2, r3) := by rw [if_neg (show ¬ (false = true) by decide)] at H; exact H
     clear H; have H := H1; clear H1; by_cases c14 : (x5_1.length : Int) ≥ 32
     ·
      rw [if_pos c14] at H
      have c14b0 : decide (32 ≤ (x5_1.length : Int)) = true := decide_eq_true c14
      have c14b1 : decide (32 ≤ x5_1.length) = true := decide_eq_true (by omega)
      clear c14
      simp only [Option.some.injEq, Prod.mk.injEq] at H
      obtain ⟨rfl, rfl, rfl⟩ := H
      obtain ⟨Ao15, co15, eo15⟩ := Kd.S_slice HO_5.out
      subst eo15; go_wp2; go_ret3
      exact ⟨_, eR, by first | exact Kd.S_nil _ _ _ _ _ | exact Kd.N_nil _ _ _ _ _ | exact Kd.V_nil _ _ _ _ _ | exact Kd.Q_nil _ _ _ _ _ | exact Kd.R_nil _ _ _ _ _, bO⟩
     rw [if_neg c14] at H
     have c14b0 : decide (32 ≤ (x5_1.length : Int)) = false := decide_eq_false c14
     have c14b1 : decide (32 ≤ x5_1.length) = false := decide_eq_false (by omega)
     clear c14
     replace H := Option.bind_eq_some_iff.mp H
     obtain ⟨⟨t184, t185, t186, t187, t190, t193⟩, A160, H⟩ := H
     replace H : (if t193 = true then ((policy_Right.f kj8 t184 t185 t186 t187 t190).bind fun t195 => (if t195 = 0 then (if x5_1.length < 1759218604441 then (policy_Parse.l0 kj8 (x5_1 ++ [(⟨t184, t185, t186, t187, t190⟩ : S46)]) t180 (t180.length : Int) (wrap64 (x17_1 + 1))) else (none)) else (some (([] : List (S46)), t195, x17_1)))) else (some (([] : List (S46)), 110, x17_1))) = some (r1, r2, r3) := H
     have A16 := Aside0.mk A160; clear A160; by_cases c17 : t193 = true; rotate_left
     ·
      replace c17 := Bool.eq_false_iff.mpr c17
      subst c17
      have H1 : (some (([] : List (S46)), 110, x17_1)) = some (r1, r2, r3) := by rw [if_neg (show ¬ (false = true) by decide)] at H; exact H
      clear H; have H := H1; clear H1
      simp only [Option.some.injEq, Prod.mk.injEq] at H
      obtain ⟨rfl, rfl, rfl⟩ := H
      obtain ⟨Ao37, co37, eo37⟩ := Kd.S_slice HO_5.out
      subst eo37
      go_wp2_with (first | ((with_reducible refine gate_callee (f := 42) rfl ?_); refine goesL_ (some 35) rfl rfl Tryz.func42 (by kernel_rfl) rfl #[.string (rdOf ByteArray.empty t180 x17_1)] rfl lR ?_; (with_reducible refine (policy_rule.calls kj8 (rdOf ByteArray.empty t180 x17_1) t184 t185 t186 t187 t190 false _ A16.out).mono ?_); rintro e w38 ⟨v188, v191, rfl, ho0, ho1, hb⟩; refine ⟨_, rfl, ?_⟩; have n0_ := Aside0.mk (Kd.S_mono (Kd.S_told (Kd.S_told (Kd.S_old (by (with_reducible repeat (first | apply Kd.S_alloc | apply Kd.S_drewN | apply Kd.S_drew)); exact HO_5.out) hb) (Kd.R_base ho0)) (Kd.R_base ho1)) (fun _ h_ => h_.1)); have n1_ := Aside0.mk (Kd.R_elder' (by (with_reducible repeat (first | apply Kd.R_alloc | apply Kd.R_drewN | apply Kd.R_drew)); exact HO_15.out) (Kd.R_base ho1) hb); have n2_ := Aside0.mk (Kd.R_lower ho0 (below_size bO)); have n3_ := Aside0.mk (Kd.R_lower (Kd.R_new' ho1 (Kd.R_lt (by (with_reducible repeat (first | apply Kd.R_alloc | apply Kd.R_drewN | apply Kd.R_drew)); exact HO_15.out))) (below_size bO)); have n4_ := Aside0.mk (below_step bO hb); clear HO_5; clear HO_15; clear HB; have HO_5 := n0_; have HO_15 := n1_; have HO189 := n2_; have HO192 := n3_; have HB := n4_; clear n0_ n1_ n2_ n3_ n4_; (try clear hb); (try clear hb2); (try clear hk); (try clear hi); (try clear ho0); (try clear ho1)) | ((with_reducible refine gate_dst (N := 8) rfl ?_); refine box_event ?hg (N := 8) ?hd (cs := #[.bool false, .int .i64 0, .string (⟨#[]⟩ : ByteArray), .slice none 0 0, .slice none 0 0]) (t := 46) ?hr ?_; (case hd => rfl); (case hg => rfl); (case hr => first | (go_simp; done) | (go_simp; rfl)); intro gb194 hg w39 hbox hb; have n0_ := Aside0.mk (Kd.S_below (Kd.S_elderB (by (with_reducible repeat (first | apply Kd.S_alloc | apply Kd.S_drewN | apply Kd.S_drew)); exact HO_5.out) gb194 (Nat.le_of_eq hg.symm)) hb); have n1_ := Aside0.mk (Kd.R_below (by (with_reducible repeat (first | apply Kd.R_alloc | apply Kd.R_drewN | apply Kd.R_drew)); exact HO_15.out) hb); have n2_ := Aside0.mk (Kd.R_below (by (with_reducible repeat (first | apply Kd.R_alloc | apply Kd.R_drewN | apply Kd.R_drew)); exact HO189.out) hb); have n3_ := Aside0.mk (Kd.R_below (by (with_reducible repeat (first | apply Kd.R_alloc | apply Kd.R_drewN | apply Kd.R_drew)); exact HO192.out) hb); have n4_ := Aside0.mk (below_step bO hb); have n5_ := Aside0.mk (hbox); have n6_ := Aside0.mk ((by rw [hg]; exact (below_size bO) : w.heap.size ≤ gb194)); have n7_ := Aside0.mk ((by rw [hg]; exact (below_size bO) : w.heap.size ≤ gb194)); clear HO_5; clear HO_15; clear HO189; clear HO192; clear HB; have HO_5 := n0_; have HO_15 := n1_; have HO189 := n2_; have HO192 := n3_; have HB := n4_; have BK194 := n5_; have GW194 := n6_; have GE194 := n7_; clear n0_ n1_ n2_ n3_ n4_ n5_ n6_ n7_; clear hb hbox hg; have hcz40_0 : w39.cell? ⟨gb194, 0, none⟩ = some (.bool false) := (blk_cell BK194.out 0).trans rfl; have hcz40_1 : w39.cell? ⟨gb194, 1, none⟩ = some (.int .i64 0) := (blk_cell BK194.out 1).trans rfl; have hcz40_2 : w39.cell? ⟨gb194, 2, none⟩ = some (.string (⟨#[]⟩ : ByteArray)) := (blk_cell BK194.out 2).trans rfl; have hcz40_3 : w39.cell? ⟨gb194, 3, none⟩ = some (.slice none 0 0) := (blk_cell BK194.out 3).trans rfl; have hcz40_4 : w39.cell? ⟨gb194, 4, none⟩ = some (.slice none 0 0) := (blk_cell BK194.out 4).trans rfl; have hfz40_0 := blk_frozen BK194.out 0; have hfz40_1 := blk_frozen BK194.out 1; have hfz40_2 := blk_frozen BK194.out 2; have hfz40_3 := blk_frozen BK194.out 3; have hfz40_4 := blk_frozen BK194.out 4; obtain ⟨Ao41, co41, eo41⟩ := Kd.R_slice HO189.out; subst eo41; obtain ⟨Ao42, co42, eo42⟩ := Kd.R_slice HO192.out; subst eo42))
      go_ret3
      exact ⟨_, eR, by first | exact Kd.S_nil _ _ _ _ _ | exact Kd.N_nil _ _ _ _ _ | exact Kd.V_nil _ _ _ _ _ | exact Kd.Q_nil _ _ _ _ _ | exact Kd.R_nil _ _ _ _ _, bO⟩
     subst c17
     have H1 : ((policy_Right.f kj8 t184 t185 t186 t187 t190).bind fun t195 => (if t195 = 0 then (if x5_1.length < 1759218604441 then (policy_Parse.l0 kj8 (x5_1 ++ [(⟨t184, t185, t186, t187, t190⟩ : S46)]) t180 (t180.length : Int) (wrap64 (x17_1 + 1))) else (none)) else (some (([] : List (S46)), t195, x17_1)))) = some (r1, r2, r3) := by rw [if_pos rfl] at H; exact H
     clear H; have H := H1; clear H1
     replace H := Option.bind_eq_some_iff.mp H
     obtain ⟨t195, A180, H⟩ := H
     replace H : (if t195 = 0 then (if x5_1.length < 1759218604441 then (policy_Parse.l0 kj8 (x5_1 ++ [(⟨t184, t185, t186, t187, t190⟩ : S46)]) t180 (t180.length : Int) (wrap64 (x17_1 + 1))) else (none)) else (some (([] : List (S46)), t195, x17_1))) = some (r1, r2, r3) := H
     have A18 := Aside0.mk A180; clear A180; by_cases c19 : t195 = 0; rotate_left
     ·
      rw [if_neg c19] at H
      have c19b0 : (t195 == 0) = false := beq_eq_false_iff_ne.mpr c19
      have c19b1 : (t195 != 0) = true := bne_iff_ne.mpr c19
      simp only [Option.some.injEq, Prod.mk.injEq] at H
      obtain ⟨rfl, rfl, rfl⟩ := H
      obtain ⟨Ao30, co30, eo30⟩ := Kd.S_slice HO_5.out
      subst eo30
      go_wp2_with (first | ((with_reducible refine gate_callee (f := 42) rfl ?_); refine goesL_ (some 35) rfl rfl Tryz.func42 (by kernel_rfl) rfl #[.string (rdOf ByteArray.empty t180 x17_1)] rfl lR ?_; (with_reducible refine (policy_rule.calls kj8 (rdOf ByteArray.empty t180 x17_1) t184 t185 t186 t187 t190 true _ A16.out).mono ?_); rintro e w31 ⟨v188, v191, rfl, ho0, ho1, hb⟩; refine ⟨_, rfl, ?_⟩; have n0_ := Aside0.mk (Kd.S_mono (Kd.S_told (Kd.S_told (Kd.S_old (by (with_reducible repeat (first | apply Kd.S_alloc | apply Kd.S_drewN | apply Kd.S_drew)); exact HO_5.out) hb) (Kd.R_base ho0)) (Kd.R_base ho1)) (fun _ h_ => h_.1)); have n1_ := Aside0.mk (Kd.R_elder' (by (with_reducible repeat (first | apply Kd.R_alloc | apply Kd.R_drewN | apply Kd.R_drew)); exact HO_15.out) (Kd.R_base ho1) hb); have n2_ := Aside0.mk (Kd.R_lower ho0 (below_size bO)); have n3_ := Aside0.mk (Kd.R_lower (Kd.R_new' ho1 (Kd.R_lt (by (with_reducible repeat (first | apply Kd.R_alloc | apply Kd.R_drewN | apply Kd.R_drew)); exact HO_15.out))) (below_size bO)); have n4_ := Aside0.mk (below_step bO hb); clear HO_5; clear HO_15; clear HB; have HO_5 := n0_; have HO_15 := n1_; have HO189 := n2_; have HO192 := n3_; have HB := n4_; clear n0_ n1_ n2_ n3_ n4_; (try clear hb); (try clear hb2); (try clear hk); (try clear hi); (try clear ho0); (try clear ho1)) | ((with_reducible refine gate_dst (N := 8) rfl ?_); refine box_event ?hg (N := 8) ?hd (cs := #[.bool false, .int .i64 0, .string (⟨#[]⟩ : ByteArray), .slice none 0 0, .slice none 0 0]) (t := 46) ?hr ?_; (case hd => rfl); (case hg => rfl); (case hr => first | (go_simp; done) | (go_simp; rfl)); intro gb194 hg w32 hbox hb; have n0_ := Aside0.mk (Kd.S_below (Kd.S_elderB (by (with_reducible repeat (first | apply Kd.S_alloc | apply Kd.S_drewN | apply Kd.S_drew)); exact HO_5.out) gb194 (Nat.le_of_eq hg.symm)) hb); have n1_ := Aside0.mk (Kd.R_below (by (with_reducible repeat (first | apply Kd.R_alloc | apply Kd.R_drewN | apply Kd.R_drew)); exact HO_15.out) hb); have n2_ := Aside0.mk (Kd.R_below (by (with_reducible repeat (first | apply Kd.R_alloc | apply Kd.R_drewN | apply Kd.R_drew)); exact HO189.out) hb); have n3_ := Aside0.mk (Kd.R_below (by (with_reducible repeat (first | apply Kd.R_alloc | apply Kd.R_drewN | apply Kd.R_drew)); exact HO192.out) hb); have n4_ := Aside0.mk (below_step bO hb); have n5_ := Aside0.mk (hbox); have n6_ := Aside0.mk ((by rw [hg]; exact (below_size bO) : w.heap.size ≤ gb194)); have n7_ := Aside0.mk ((by rw [hg]; exact (below_size bO) : w.heap.size ≤ gb194)); clear HO_5; clear HO_15; clear HO189; clear HO192; clear HB; have HO_5 := n0_; have HO_15 := n1_; have HO189 := n2_; have HO192 := n3_; have HB := n4_; have BK194 := n5_; have GW194 := n6_; have GE194 := n7_; clear n0_ n1_ n2_ n3_ n4_ n5_ n6_ n7_; clear hb hbox hg; have hcz33_0 : w32.cell? ⟨gb194, 0, none⟩ = some (.bool false) := (blk_cell BK194.out 0).trans rfl; have hcz33_1 : w32.cell? ⟨gb194, 1, none⟩ = some (.int .i64 0) := (blk_cell BK194.out 1).trans rfl; have hcz33_2 : w32.cell? ⟨gb194, 2, none⟩ = some (.string (⟨#[]⟩ : ByteArray)) := (blk_cell BK194.out 2).trans rfl; have hcz33_3 : w32.cell? ⟨gb194, 3, none⟩ = some (.slice none 0 0) := (blk_cell BK194.out 3).trans rfl; have hcz33_4 : w32.cell? ⟨gb194, 4, none⟩ = some (.slice none 0 0) := (blk_cell BK194.out 4).trans rfl; have hfz33_0 := blk_frozen BK194.out 0; have hfz33_1 := blk_frozen BK194.out 1; have hfz33_2 := blk_frozen BK194.out 2; have hfz33_3 := blk_frozen BK194.out 3; have hfz33_4 := blk_frozen BK194.out 4; obtain ⟨Ao34, co34, eo34⟩ := Kd.R_slice HO189.out; subst eo34; obtain ⟨Ao35, co35, eo35⟩ := Kd.R_slice HO192.out; subst eo35) | ((with_reducible refine gate_callee (f := 22) rfl ?_); refine goesL_ (some 42) rfl rfl Tryz.func22 (by kernel_rfl) rfl #[.agg #[.bool t184, .int .i64 t185, .string t186, .slice Ao34 t187.length co34, .slice Ao35 t190.length co35]] rfl lR ?_; (with_reducible refine (policy_Right.calls kj8 t184 t185 t186 _ _ t187 _ _ t190 t195 _ ?side1 ?side2 ?side3 ?side4 A18.out).mono ?_); (case side1 => refine (Kd.R_reads' (e := 33) (base := w.heap.size) (ok := fun k_ => True) (n := t187.length) (c := co34) ?_).2.2; exact (by (with_reducible repeat (first | apply Kd.R_alloc | apply Kd.R_drewN | apply Kd.R_drew)); exact (Kd.R_mono (Kd.R_far (p := ⟨gb194, 4, none⟩) (Kd.R_far (p := ⟨gb194, 3, none⟩) (Kd.R_far (p := ⟨gb194, 2, none⟩) (Kd.R_far (p := ⟨gb194, 1, none⟩) (Kd.R_far (p := ⟨gb194, 0, none⟩) (Kd.R_types HO189.out BK194.out (by decide)) (fun _ hk => hk.2) (.bool t184)) (fun _ hk => hk.2) (.int .i64 t185)) (fun _ hk => hk.2) (.string t186)) (fun _ hk => hk.2) (.slice Ao34 t187.length co34)) (fun _ hk => hk.2) (.slice Ao35 t190.length co35)) (fun _ h_ => h_.1)))); (case side2 => exact (Kd.R_reads' HO189.out).2.1); (case side3 => refine (Kd.R_reads' (e := 9) (base := w.heap.size) (ok := fun k_ => (True ∧ some k_ ≠ (.slice (some ad183) t180.length co5 : Value).ownBlock)) (n := t190.length) (c := co35) ?_).2.2; exact (by (with_reducible repeat (first | apply Kd.R_alloc | apply Kd.R_drewN | apply Kd.R_drew)); exact (Kd.R_mono (Kd.R_far (p := ⟨gb194, 4, none⟩) (Kd.R_far (p := ⟨gb194, 3, none⟩) (Kd.R_far (p := ⟨gb194, 2, none⟩) (Kd.R_far (p := ⟨gb194, 1, none⟩) (Kd.R_far (p := ⟨gb194, 0, none⟩) (Kd.R_types HO192.out BK194.out (by decide)) (fun _ hk => hk.2) (.bool t184)) (fun _ hk => hk.2) (.int .i64 t185)) (fun _ hk => hk.2) (.string t186)) (fun _ hk => hk.2) (.slice Ao34 t187.length co34)) (fun _ hk => hk.2) (.slice Ao35 t190.length co35)) (fun _ h_ => h_.1)))); (case side4 => exact (Kd.R_reads' HO192.out).2.1); rintro e w36 ⟨rfl, hb⟩; refine ⟨_, rfl, ?_⟩; have n0_ := Aside0.mk (Kd.S_below (by (with_reducible repeat (first | apply Kd.S_alloc | apply Kd.S_drewN | apply Kd.S_drew)); exact (Kd.S_mono (Kd.S_far (p := ⟨gb194, 4, none⟩) (Kd.S_far (p := ⟨gb194, 3, none⟩) (Kd.S_far (p := ⟨gb194, 2, none⟩) (Kd.S_far (p := ⟨gb194, 1, none⟩) (Kd.S_far (p := ⟨gb194, 0, none⟩) (Kd.S_mono HO_5.out (fun k_ hk => (⟨hk, hk.2⟩ : _ ∧ k_ ≠ gb194))) (fun _ hk => hk.2) (.bool t184)) (fun _ hk => hk.2) (.int .i64 t185)) (fun _ hk => hk.2) (.string t186)) (fun _ hk => hk.2) (.slice Ao34 t187.length co34)) (fun _ hk => hk.2) (.slice Ao35 t190.length co35)) (fun _ h_ => h_.1))) hb); have n1_ := Aside0.mk (Kd.R_below (by (with_reducible repeat (first | apply Kd.R_alloc | apply Kd.R_drewN | apply Kd.R_drew)); exact (Kd.R_mono (Kd.R_far (p := ⟨gb194, 4, none⟩) (Kd.R_far (p := ⟨gb194, 3, none⟩) (Kd.R_far (p := ⟨gb194, 2, none⟩) (Kd.R_far (p := ⟨gb194, 1, none⟩) (Kd.R_far (p := ⟨gb194, 0, none⟩) (Kd.R_types HO_15.out BK194.out (by decide)) (fun _ hk => hk.2) (.bool t184)) (fun _ hk => hk.2) (.int .i64 t185)) (fun _ hk => hk.2) (.string t186)) (fun _ hk => hk.2) (.slice Ao34 t187.length co34)) (fun _ hk => hk.2) (.slice Ao35 t190.length co35)) (fun _ h_ => h_.1))) hb); have n2_ := Aside0.mk (Kd.R_below (by (with_reducible repeat (first | apply Kd.R_alloc | apply Kd.R_drewN | apply Kd.R_drew)); exact (Kd.R_mono (Kd.R_far (p := ⟨gb194, 4, none⟩) (Kd.R_far (p := ⟨gb194, 3, none⟩) (Kd.R_far (p := ⟨gb194, 2, none⟩) (Kd.R_far (p := ⟨gb194, 1, none⟩) (Kd.R_far (p := ⟨gb194, 0, none⟩) (Kd.R_types HO189.out BK194.out (by decide)) (fun _ hk => hk.2) (.bool t184)) (fun _ hk => hk.2) (.int .i64 t185)) (fun _ hk => hk.2) (.string t186)) (fun _ hk => hk.2) (.slice Ao34 t187.length co34)) (fun _ hk => hk.2) (.slice Ao35 t190.length co35)) (fun _ h_ => h_.1))) hb); have n3_ := Aside0.mk (Kd.R_below (by (with_reducible repeat (first | apply Kd.R_alloc | apply Kd.R_drewN | apply Kd.R_drew)); exact (Kd.R_mono (Kd.R_far (p := ⟨gb194, 4, none⟩) (Kd.R_far (p := ⟨gb194, 3, none⟩) (Kd.R_far (p := ⟨gb194, 2, none⟩) (Kd.R_far (p := ⟨gb194, 1, none⟩) (Kd.R_far (p := ⟨gb194, 0, none⟩) (Kd.R_types HO192.out BK194.out (by decide)) (fun _ hk => hk.2) (.bool t184)) (fun _ hk => hk.2) (.int .i64 t185)) (fun _ hk => hk.2) (.string t186)) (fun _ hk => hk.2) (.slice Ao34 t187.length co34)) (fun _ hk => hk.2) (.slice Ao35 t190.length co35)) (fun _ h_ => h_.1))) hb); have n4_ := Aside0.mk (blk_below (g := gb194) (o := .cells #[.bool t184, .int .i64 t185, .string t186, .slice Ao34 t187.length co34, .slice Ao35 t190.length co35] 46 (0, 0)) (by (with_reducible repeat (first | refine blk_drewN ?_ _ | refine blk_drew ?_ | refine blk_alloc ?_ _)); refine blk_put (cs := #[.bool t184, .int .i64 t185, .string t186, .slice Ao34 t187.length co34, .slice none 0 0]) ?_ 4 _ rfl; (with_reducible repeat (first | refine blk_drewN ?_ _ | refine blk_drew ?_ | refine blk_alloc ?_ _)); refine blk_put (cs := #[.bool t184, .int .i64 t185, .string t186, .slice none 0 0, .slice none 0 0]) ?_ 3 _ rfl; (with_reducible repeat (first | refine blk_drewN ?_ _ | refine blk_drew ?_ | refine blk_alloc ?_ _)); refine blk_put (cs := #[.bool t184, .int .i64 t185, .string (⟨#[]⟩ : ByteArray), .slice none 0 0, .slice none 0 0]) ?_ 2 _ rfl; (with_reducible repeat (first | refine blk_drewN ?_ _ | refine blk_drew ?_ | refine blk_alloc ?_ _)); refine blk_put (cs := #[.bool t184, .int .i64 0, .string (⟨#[]⟩ : ByteArray), .slice none 0 0, .slice none 0 0]) ?_ 1 _ rfl; (with_reducible repeat (first | refine blk_drewN ?_ _ | refine blk_drew ?_ | refine blk_alloc ?_ _)); refine blk_put (cs := #[.bool false, .int .i64 0, .string (⟨#[]⟩ : ByteArray), .slice none 0 0, .slice none 0 0]) ?_ 0 _ rfl; (with_reducible repeat (first | refine blk_drewN ?_ _ | refine blk_drew ?_ | refine blk_alloc ?_ _)); exact BK194.out) hb); have n5_ := Aside0.mk (below_step bO hb); clear HO_5; clear HO_15; clear HO189; clear HO192; clear BK194; clear HB; have HO_5 := n0_; have HO_15 := n1_; have HO189 := n2_; have HO192 := n3_; have BK194 := n4_; have HB := n5_; clear n0_ n1_ n2_ n3_ n4_ n5_; (try clear hb); (try clear hb2); (try clear hk); (try clear hi)))
      go_ret3
      exact ⟨_, eR, by first | exact Kd.S_nil _ _ _ _ _ | exact Kd.N_nil _ _ _ _ _ | exact Kd.V_nil _ _ _ _ _ | exact Kd.Q_nil _ _ _ _ _ | exact Kd.R_nil _ _ _ _ _, bO⟩
     rw [if_pos c19] at H
     have c19b0 : (t195 == 0) = true := beq_iff_eq.mpr c19
     have c19b1 : (t195 != 0) = false := bne_eq_false_iff_eq.mpr c19
     clear c19; by_cases c20 : x5_1.length < 1759218604441; rotate_left
     · rw [if_neg c20] at H; exact absurd H (by simp)
     rw [if_pos c20] at H; have LMc20 := Aside0.mk c20; clear c20
     obtain ⟨y196, hy196⟩ : ∃ y_ : List (S46), y_ = (x5_1 ++ [(⟨t184, t185, t186, t187, t190⟩ : S46)]) := ⟨_, rfl⟩
     replace H : (policy_Parse.l0 kj8 y196 t180 (t180.length : Int) (wrap64 (x17_1 + 1))) = some (r1, r2, r3) := by first | (rw [hy196]; with_reducible exact H) | (have H2_ := (Option.bind_some _ _).symm.trans H; rw [hy196]; with_reducible exact H2_) | (have H2_ := (Option.bind_some _ _).symm.trans H; with_reducible exact H2_) | with_reducible exact H | (rw [hy196]; exact H) | exact H
     have Ny196 := Aside0.mk hy196; clear hy196; have H' := Aside0.mk H; clear H
     obtain ⟨Ao21, co21, eo21⟩ := Kd.S_slice HO_5.out
     subst eo21
     go_wp2_with (first | ((with_reducible refine gate_callee (f := 42) rfl ?_); refine goesL_ (some 35) rfl rfl Tryz.func42 (by kernel_rfl) rfl #[.string (rdOf ByteArray.empty t180 x17_1)] rfl lR ?_; (with_reducible refine (policy_rule.calls kj8 (rdOf ByteArray.empty t180 x17_1) t184 t185 t186 t187 t190 true _ A16.out).mono ?_); rintro e w22 ⟨v188, v191, rfl, ho0, ho1, hb⟩; refine ⟨_, rfl, ?_⟩; have n0_ := Aside0.mk (Kd.S_mono (Kd.S_told (Kd.S_told (Kd.S_old (by (with_reducible repeat (first | apply Kd.S_alloc | apply Kd.S_drewN | apply Kd.S_drew)); exact HO_5.out) hb) (Kd.R_base ho0)) (Kd.R_base ho1)) (fun _ h_ => h_.1)); have n1_ := Aside0.mk (Kd.R_elder' (by (with_reducible repeat (first | apply Kd.R_alloc | apply Kd.R_drewN | apply Kd.R_drew)); exact HO_15.out) (Kd.R_base ho1) hb); have n2_ := Aside0.mk (Kd.R_lower ho0 (below_size bO)); have n3_ := Aside0.mk (Kd.R_lower (Kd.R_new' ho1 (Kd.R_lt (by (with_reducible repeat (first | apply Kd.R_alloc | apply Kd.R_drewN | apply Kd.R_drew)); exact HO_15.out))) (below_size bO)); have n4_ := Aside0.mk (below_step bO hb); clear HO_5; clear HO_15; clear HB; have HO_5 := n0_; have HO_15 := n1_; have HO189 := n2_; have HO192 := n3_; have HB := n4_; clear n0_ n1_ n2_ n3_ n4_; (try clear hb); (try clear hb2); (try clear hk); (try clear hi); (try clear ho0); (try clear ho1)) | ((with_reducible refine gate_dst (N := 8) rfl ?_); refine box_event ?hg (N := 8) ?hd (cs := #[.bool false, .int .i64 0, .string (⟨#[]⟩ : ByteArray), .slice none 0 0, .slice none 0 0]) (t := 46) ?hr ?_; (case hd => rfl); (case hg => rfl); (case hr => first | (go_simp; done) | (go_simp; rfl)); intro gb194 hg w23 hbox hb; have n0_ := Aside0.mk (Kd.S_below (Kd.S_elderB (by (with_reducible repeat (first | apply Kd.S_alloc | apply Kd.S_drewN | apply Kd.S_drew)); exact HO_5.out) gb194 (Nat.le_of_eq hg.symm)) hb); have n1_ := Aside0.mk (Kd.R_below (by (with_reducible repeat (first | apply Kd.R_alloc | apply Kd.R_drewN | apply Kd.R_drew)); exact HO_15.out) hb); have n2_ := Aside0.mk (Kd.R_below (by (with_reducible repeat (first | apply Kd.R_alloc | apply Kd.R_drewN | apply Kd.R_drew)); exact HO189.out) hb); have n3_ := Aside0.mk (Kd.R_below (by (with_reducible repeat (first | apply Kd.R_alloc | apply Kd.R_drewN | apply Kd.R_drew)); exact HO192.out) hb); have n4_ := Aside0.mk (below_step bO hb); have n5_ := Aside0.mk (hbox); have n6_ := Aside0.mk ((by rw [hg]; exact (below_size bO) : w.heap.size ≤ gb194)); have n7_ := Aside0.mk ((by rw [hg]; exact (below_size bO) : w.heap.size ≤ gb194)); clear HO_5; clear HO_15; clear HO189; clear HO192; clear HB; have HO_5 := n0_; have HO_15 := n1_; have HO189 := n2_; have HO192 := n3_; have HB := n4_; have BK194 := n5_; have GW194 := n6_; have GE194 := n7_; clear n0_ n1_ n2_ n3_ n4_ n5_ n6_ n7_; clear hb hbox hg; have hcz24_0 : w23.cell? ⟨gb194, 0, none⟩ = some (.bool false) := (blk_cell BK194.out 0).trans rfl; have hcz24_1 : w23.cell? ⟨gb194, 1, none⟩ = some (.int .i64 0) := (blk_cell BK194.out 1).trans rfl; have hcz24_2 : w23.cell? ⟨gb194, 2, none⟩ = some (.string (⟨#[]⟩ : ByteArray)) := (blk_cell BK194.out 2).trans rfl; have hcz24_3 : w23.cell? ⟨gb194, 3, none⟩ = some (.slice none 0 0) := (blk_cell BK194.out 3).trans rfl; have hcz24_4 : w23.cell? ⟨gb194, 4, none⟩ = some (.slice none 0 0) := (blk_cell BK194.out 4).trans rfl; have hfz24_0 := blk_frozen BK194.out 0; have hfz24_1 := blk_frozen BK194.out 1; have hfz24_2 := blk_frozen BK194.out 2; have hfz24_3 := blk_frozen BK194.out 3; have hfz24_4 := blk_frozen BK194.out 4; obtain ⟨Ao25, co25, eo25⟩ := Kd.R_slice HO189.out; subst eo25; obtain ⟨Ao26, co26, eo26⟩ := Kd.R_slice HO192.out; subst eo26) | ((with_reducible refine gate_callee (f := 22) rfl ?_); refine goesL_ (some 42) rfl rfl Tryz.func22 (by kernel_rfl) rfl #[.agg #[.bool t184, .int .i64 t185, .string t186, .slice Ao25 t187.length co25, .slice Ao26 t190.length co26]] rfl lR ?_; (with_reducible refine (policy_Right.calls kj8 t184 t185 t186 _ _ t187 _ _ t190 t195 _ ?side1 ?side2 ?side3 ?side4 A18.out).mono ?_); (case side1 => refine (Kd.R_reads' (e := 33) (base := w.heap.size) (ok := fun k_ => True) (n := t187.length) (c := co25) ?_).2.2; exact (by (with_reducible repeat (first | apply Kd.R_alloc | apply Kd.R_drewN | apply Kd.R_drew)); exact (Kd.R_mono (Kd.R_far (p := ⟨gb194, 4, none⟩) (Kd.R_far (p := ⟨gb194, 3, none⟩) (Kd.R_far (p := ⟨gb194, 2, none⟩) (Kd.R_far (p := ⟨gb194, 1, none⟩) (Kd.R_far (p := ⟨gb194, 0, none⟩) (Kd.R_types HO189.out BK194.out (by decide)) (fun _ hk => hk.2) (.bool t184)) (fun _ hk => hk.2) (.int .i64 t185)) (fun _ hk => hk.2) (.string t186)) (fun _ hk => hk.2) (.slice Ao25 t187.length co25)) (fun _ hk => hk.2) (.slice Ao26 t190.length co26)) (fun _ h_ => h_.1)))); (case side2 => exact (Kd.R_reads' HO189.out).2.1); (case side3 => refine (Kd.R_reads' (e := 9) (base := w.heap.size) (ok := fun k_ => (True ∧ some k_ ≠ (.slice (some ad183) t180.length co5 : Value).ownBlock)) (n := t190.length) (c := co26) ?_).2.2; exact (by (with_reducible repeat (first | apply Kd.R_alloc | apply Kd.R_drewN | apply Kd.R_drew)); exact (Kd.R_mono (Kd.R_far (p := ⟨gb194, 4, none⟩) (Kd.R_far (p := ⟨gb194, 3, none⟩) (Kd.R_far (p := ⟨gb194, 2, none⟩) (Kd.R_far (p := ⟨gb194, 1, none⟩) (Kd.R_far (p := ⟨gb194, 0, none⟩) (Kd.R_types HO192.out BK194.out (by decide)) (fun _ hk => hk.2) (.bool t184)) (fun _ hk => hk.2) (.int .i64 t185)) (fun _ hk => hk.2) (.string t186)) (fun _ hk => hk.2) (.slice Ao25 t187.length co25)) (fun _ hk => hk.2) (.slice Ao26 t190.length co26)) (fun _ h_ => h_.1)))); (case side4 => exact (Kd.R_reads' HO192.out).2.1); rintro e w27 ⟨rfl, hb⟩; refine ⟨_, rfl, ?_⟩; have n0_ := Aside0.mk (Kd.S_below (by (with_reducible repeat (first | apply Kd.S_alloc | apply Kd.S_drewN | apply Kd.S_drew)); exact (Kd.S_mono (Kd.S_far (p := ⟨gb194, 4, none⟩) (Kd.S_far (p := ⟨gb194, 3, none⟩) (Kd.S_far (p := ⟨gb194, 2, none⟩) (Kd.S_far (p := ⟨gb194, 1, none⟩) (Kd.S_far (p := ⟨gb194, 0, none⟩) (Kd.S_mono HO_5.out (fun k_ hk => (⟨hk, hk.2⟩ : _ ∧ k_ ≠ gb194))) (fun _ hk => hk.2) (.bool t184)) (fun _ hk => hk.2) (.int .i64 t185)) (fun _ hk => hk.2) (.string t186)) (fun _ hk => hk.2) (.slice Ao25 t187.length co25)) (fun _ hk => hk.2) (.slice Ao26 t190.length co26)) (fun _ h_ => h_.1))) hb); have n1_ := Aside0.mk (Kd.R_below (by (with_reducible repeat (first | apply Kd.R_alloc | apply Kd.R_drewN | apply Kd.R_drew)); exact (Kd.R_mono (Kd.R_far (p := ⟨gb194, 4, none⟩) (Kd.R_far (p := ⟨gb194, 3, none⟩) (Kd.R_far (p := ⟨gb194, 2, none⟩) (Kd.R_far (p := ⟨gb194, 1, none⟩) (Kd.R_far (p := ⟨gb194, 0, none⟩) (Kd.R_types HO_15.out BK194.out (by decide)) (fun _ hk => hk.2) (.bool t184)) (fun _ hk => hk.2) (.int .i64 t185)) (fun _ hk => hk.2) (.string t186)) (fun _ hk => hk.2) (.slice Ao25 t187.length co25)) (fun _ hk => hk.2) (.slice Ao26 t190.length co26)) (fun _ h_ => h_.1))) hb); have n2_ := Aside0.mk (Kd.R_below (by (with_reducible repeat (first | apply Kd.R_alloc | apply Kd.R_drewN | apply Kd.R_drew)); exact (Kd.R_mono (Kd.R_far (p := ⟨gb194, 4, none⟩) (Kd.R_far (p := ⟨gb194, 3, none⟩) (Kd.R_far (p := ⟨gb194, 2, none⟩) (Kd.R_far (p := ⟨gb194, 1, none⟩) (Kd.R_far (p := ⟨gb194, 0, none⟩) (Kd.R_types HO189.out BK194.out (by decide)) (fun _ hk => hk.2) (.bool t184)) (fun _ hk => hk.2) (.int .i64 t185)) (fun _ hk => hk.2) (.string t186)) (fun _ hk => hk.2) (.slice Ao25 t187.length co25)) (fun _ hk => hk.2) (.slice Ao26 t190.length co26)) (fun _ h_ => h_.1))) hb); have n3_ := Aside0.mk (Kd.R_below (by (with_reducible repeat (first | apply Kd.R_alloc | apply Kd.R_drewN | apply Kd.R_drew)); exact (Kd.R_mono (Kd.R_far (p := ⟨gb194, 4, none⟩) (Kd.R_far (p := ⟨gb194, 3, none⟩) (Kd.R_far (p := ⟨gb194, 2, none⟩) (Kd.R_far (p := ⟨gb194, 1, none⟩) (Kd.R_far (p := ⟨gb194, 0, none⟩) (Kd.R_types HO192.out BK194.out (by decide)) (fun _ hk => hk.2) (.bool t184)) (fun _ hk => hk.2) (.int .i64 t185)) (fun _ hk => hk.2) (.string t186)) (fun _ hk => hk.2) (.slice Ao25 t187.length co25)) (fun _ hk => hk.2) (.slice Ao26 t190.length co26)) (fun _ h_ => h_.1))) hb); have n4_ := Aside0.mk (blk_below (g := gb194) (o := .cells #[.bool t184, .int .i64 t185, .string t186, .slice Ao25 t187.length co25, .slice Ao26 t190.length co26] 46 (0, 0)) (by (with_reducible repeat (first | refine blk_drewN ?_ _ | refine blk_drew ?_ | refine blk_alloc ?_ _)); refine blk_put (cs := #[.bool t184, .int .i64 t185, .string t186, .slice Ao25 t187.length co25, .slice none 0 0]) ?_ 4 _ rfl; (with_reducible repeat (first | refine blk_drewN ?_ _ | refine blk_drew ?_ | refine blk_alloc ?_ _)); refine blk_put (cs := #[.bool t184, .int .i64 t185, .string t186, .slice none 0 0, .slice none 0 0]) ?_ 3 _ rfl; (with_reducible repeat (first | refine blk_drewN ?_ _ | refine blk_drew ?_ | refine blk_alloc ?_ _)); refine blk_put (cs := #[.bool t184, .int .i64 t185, .string (⟨#[]⟩ : ByteArray), .slice none 0 0, .slice none 0 0]) ?_ 2 _ rfl; (with_reducible repeat (first | refine blk_drewN ?_ _ | refine blk_drew ?_ | refine blk_alloc ?_ _)); refine blk_put (cs := #[.bool t184, .int .i64 0, .string (⟨#[]⟩ : ByteArray), .slice none 0 0, .slice none 0 0]) ?_ 1 _ rfl; (with_reducible repeat (first | refine blk_drewN ?_ _ | refine blk_drew ?_ | refine blk_alloc ?_ _)); refine blk_put (cs := #[.bool false, .int .i64 0, .string (⟨#[]⟩ : ByteArray), .slice none 0 0, .slice none 0 0]) ?_ 0 _ rfl; (with_reducible repeat (first | refine blk_drewN ?_ _ | refine blk_drew ?_ | refine blk_alloc ?_ _)); exact BK194.out) hb); have n5_ := Aside0.mk (below_step bO hb); clear HO_5; clear HO_15; clear HO189; clear HO192; clear BK194; clear HB; have HO_5 := n0_; have HO_15 := n1_; have HO189 := n2_; have HO192 := n3_; have BK194 := n4_; have HB := n5_; clear n0_ n1_ n2_ n3_ n4_ n5_; (try clear hb); (try clear hb2); (try clear hk); (try clear hi); have hcz28_0 : w27.cell? ⟨gb194, 0, none⟩ = some (.bool t184) := (blk_cell BK194.out 0).trans rfl; have hcz28_1 : w27.cell? ⟨gb194, 1, none⟩ = some (.int .i64 t185) := (blk_cell BK194.out 1).trans rfl; have hcz28_2 : w27.cell? ⟨gb194, 2, none⟩ = some (.string t186) := (blk_cell BK194.out 2).trans rfl; have hcz28_3 : w27.cell? ⟨gb194, 3, none⟩ = some (.slice Ao25 t187.length co25) := (blk_cell BK194.out 3).trans rfl; have hcz28_4 : w27.cell? ⟨gb194, 4, none⟩ = some (.slice Ao26 t190.length co26) := (blk_cell BK194.out 4).trans rfl; have hfz28_0 := blk_frozen BK194.out 0; have hfz28_1 := blk_frozen BK194.out 1; have hfz28_2 := blk_frozen BK194.out 2; have hfz28_3 := blk_frozen BK194.out 3; have hfz28_4 := blk_frozen BK194.out 4) | ((with_reducible refine gate_builtin (b := .append) (xs := #[.tmp 47, .tmp 49]) rfl ?_); at_builtin; refine Kd.S_append k46 (w0 := w) w.heap.size rfl (.tmp 47) (.tmp 49) 22 46 (.agg #[(.bool false), (.int .i64 0), (.string ⟨#[]⟩), (.slice none 0 0), (.slice none 0 0)]) 80 rfl Tryz.underlying22 info46 rfl (by decide) (by omega) (.slice Ao21 x5_1.length co21) x5_1 (⟨t184, t185, t186, t187, t190⟩ : S46) [.bool t184, .int .i64 t185, .string t186, .slice Ao25 t187.length co25, .slice Ao26 t190.length co26] (fun k_ => some k_ ≠ (.slice (some ad183) t180.length co5 : Value).ownBlock ∧ k_ ≠ gb194) (fun k_ => some k_ = (.slice Ao25 t187.length co25 : Value).ownBlock ∨ some k_ = (.slice Ao26 t190.length co26 : Value).ownBlock) rfl rfl ?aP (fun k_ hk_ => hk_.elim (fun h_ => ((Kd.R_mono (ok' := fun k_ => ((fun k_ => some k_ ≠ (.slice (some ad183) t180.length co5 : Value).ownBlock ∧ k_ ≠ gb194)) k_ ∧ some k_ ≠ (.slice Ao21 x5_1.length co21 : Value).ownBlock) (Kd.R_types (Kd.R_apart' (Kd.R_apart' (HO189.out) (Kd.R_typed HO_15.out) (by decide)) (Kd.S_typed HO_5.out) (by decide)) BK194.out (by decide)) (fun k_ hk => ⟨⟨hk.1.1.2, hk.2⟩, hk.1.2⟩))).1 k_ h_.symm) (fun h_ => ((Kd.R_mono (ok' := fun k_ => ((fun k_ => some k_ ≠ (.slice (some ad183) t180.length co5 : Value).ownBlock ∧ k_ ≠ gb194)) k_ ∧ some k_ ≠ (.slice Ao21 x5_1.length co21 : Value).ownBlock) (Kd.R_types (Kd.R_apart' (HO192.out) (Kd.S_typed HO_5.out) (by decide)) BK194.out (by decide)) (fun k_ hk => ⟨⟨hk.1.1.2, hk.2⟩, hk.1.2⟩))).1 k_ h_.symm)) ?aF ?aO ?aB ?aS ?aL ?_; (case aP => exact k46_mkM _ _ _ (⟨t184, t185, t186, t187, t190⟩ : S46) (Kd.R_mono (Kd.R_tight rfl (Kd.R_mono (ok' := fun k_ => ((fun k_ => some k_ ≠ (.slice (some ad183) t180.length co5 : Value).ownBlock ∧ k_ ≠ gb194)) k_ ∧ some k_ ≠ (.slice Ao21 x5_1.length co21 : Value).ownBlock) (Kd.R_types (Kd.R_apart' (Kd.R_apart' (HO189.out) (Kd.R_typed HO_15.out) (by decide)) (Kd.S_typed HO_5.out) (by decide)) BK194.out (by decide)) (fun k_ hk => ⟨⟨hk.1.1.2, hk.2⟩, hk.1.2⟩))) (fun _ h_ => Or.inl h_)) (Kd.R_mono (Kd.R_tight rfl (Kd.R_mono (ok' := fun k_ => ((fun k_ => some k_ ≠ (.slice (some ad183) t180.length co5 : Value).ownBlock ∧ k_ ≠ gb194)) k_ ∧ some k_ ≠ (.slice Ao21 x5_1.length co21 : Value).ownBlock) (Kd.R_types (Kd.R_apart' (HO192.out) (Kd.S_typed HO_5.out) (by decide)) BK194.out (by decide)) (fun k_ hk => ⟨⟨hk.1.1.2, hk.2⟩, hk.1.2⟩))) (fun _ h_ => Or.inr (h_)))); (case aB => exact bO); (case aF => exact (fun k_ hk => ⟨Kd.fresh' (Kd.R_lt (by (with_reducible repeat (first | apply Kd.R_alloc | apply Kd.R_drewN | apply Kd.R_drew)); exact HO_15.out)) k_ hk, Kd.freshB (g := gb194) (o := .cells #[.bool t184, .int .i64 t185, .string t186, .slice Ao25 t187.length co25, .slice Ao26 t190.length co26] 46 (0, 0)) bK k_ hk⟩)); (case aO => exact (by (with_reducible repeat (first | apply Kd.S_alloc | apply Kd.S_drewN | apply Kd.S_drew)); exact Kd.S_mono HO_5.out (fun k_ hk => ⟨⟨hk.1.1.1, hk.2⟩, fun e_ => e_.elim (fun h_ => hk.1.1.2 h_) (fun h_ => hk.1.2 h_)⟩))); (case aS => exact (below_size bO)); (case aL => have := LMc20.out; omega); intro v197 w29 ho hb hg hat; rw [← Ny196.out] at ho; have n0_ := Aside0.mk (Kd.R_over' (by (with_reducible repeat (first | apply Kd.R_alloc | apply Kd.R_drewN | apply Kd.R_drew)); exact HO_15.out) (Kd.S_typed (by (with_reducible repeat (first | apply Kd.S_alloc | apply Kd.S_drewN | apply Kd.S_drew)); exact HO_5.out)) (by decide) hg); have n1_ := Aside0.mk (blk_grown (g := gb194) (o := .cells #[.bool t184, .int .i64 t185, .string t186, .slice Ao25 t187.length co25, .slice Ao26 t190.length co26] 46 (0, 0)) bK hg (Kd.S_away HO_5.out (fun _ hk => hk.2))); have n2_ := Aside0.mk (hb); have n3_ := Aside0.mk (ho); clear HO_15; clear BK194; clear HB; clear HO_5; clear HO189; clear HO192; have HO_15 := n0_; have BK194 := n1_; have HB := n2_; have HO198 := n3_; clear n0_ n1_ n2_ n3_; clear ho hb hg hat))
     go_roundg kj8
     case measure => have := HK1.out; have := HJ8.out; omega
     case rel => exact ⟨(y196), (wrap64 (x17_1 + 1)), sR, H', ⟨by have := HK1.out; have := HJ8.out; omega⟩, ⟨by (with_reducible repeat (first | apply Kd.S_alloc | apply Kd.S_drewN | apply Kd.S_drew)); exact Kd.S_mono HO198.out (fun _ hk => hk.1)⟩, ⟨by (with_reducible repeat (first | apply Kd.R_alloc | apply Kd.R_drewN | apply Kd.R_drew)); exact Kd.R_mono HO_15.out (fun _ hk => trivial)⟩, ⟨bO⟩⟩
def belfrylaw11_known.f (k : Nat)  : Option (Bool) := (policy_Parse.f k (⟨#[97, 108, 108, 111, 119, 32, 108, 111, 103, 115, 32, 116, 111, 32, 103, 108, 111, 98, 101, 120, 32, 119, 104, 101, 114, 101, 32, 123, 101, 110, 118, 61, 34, 112, 114, 111, 100, 34, 125, 32, 104, 105, 100, 101, 32, 117, 115, 101, 114, 10, 100, 101, 110, 121, 32, 108, 111, 103, 115, 32, 116, 111, 32, 42, 32, 119, 104, 101, 114, 101, 32, 123, 108, 101, 118, 101, 108, 61, 34, 100, 101, 98, 117, 103, 34, 125, 10]⟩ : ByteArray)).bind fun bt199 => ((policy_Parse.f k (⟨#[10, 97, 108, 108, 111, 119, 32, 120, 32, 116, 111, 32, 121]⟩ : ByteArray)).bind fun bt204 => ((policy_Views.f k bt199.1 (⟨#[97, 99, 109, 101]⟩ : ByteArray) (⟨#[103, 108, 111, 98, 101, 120]⟩ : ByteArray) 2).bind fun t209 => ((policy_Views.f k bt199.1 (⟨#[97, 99, 109, 101]⟩ : ByteArray) (⟨#[105, 110, 105, 116, 101, 99, 104]⟩ : ByteArray) 2).bind fun t212 => (if bt199.2.1 = 0 then (if (bt199.1.length : Int) = 2 then (if bt204.2.1 = 110 then (if bt204.2.2 = 1 then (if (t209.length : Int) = 1 then (if 0 < (t209.length : Int) then (if (((rd_T31 t209 0).f1).length : Int) = 2 then (if (((rd_T31 t209 0).f2).length : Int) = 1 then (some ((t212.length : Int) == 0)) else (some false)) else (some false)) else (none)) else (some false)) else (some false)) else (some false)) else (some false)) else (some false)))))
end Go.Proofs.YtkedidjjhhjdbaaGreatDoor.Pr
end
section
set_option linter.unusedVariables false
set_option linter.unusedSimpArgs false
namespace Go.Proofs.YtkedidjjhhjdbaaGreatDoor.Pr
open Go.RowKit Go.Proofs.YtkedidjjhhjdbaaGreatDoorW.PrintWords Go.Proofs.YtkedidjjhhjdbaaGreatDoorW.PrintLast Go.Proofs.YtkedidjjhhjdbaaGreatDoorW.PrintMore
set_option maxHeartbeats 8000000 in
set_option maxRecDepth 100000 in
theorem known.calls (k : Nat) (w : World) (h : belfrylaw11_known.f k = some true)
  (he_ : EnvW w := by repeat (first | with_reducible assumption | with_reducible exact env_of (by with_reducible assumption) (by with_reducible assumption) | with_reducible exact env_out (by with_reducible assumption) | with_reducible apply env_alloc | with_reducible apply env_drewN | with_reducible apply env_drew | with_reducible refine env_set ?_ (by with_reducible assumption) (by with_reducible assumption))) :
  Calls Tryz.prog 9 #[] w fun e w' => e = .returned (.bool true) ∧ Below w.heap.size w w' := by
 unfold belfrylaw11_known.f at h
 obtain ⟨⟨l1, p1, q1⟩, hp1, h1⟩ := Option.bind_eq_some_iff.mp h
 clear h
 obtain ⟨⟨l2, p2, q2⟩, hp2, h2⟩ := Option.bind_eq_some_iff.mp h1
 clear h1
 obtain ⟨v1, hv1, h3⟩ := Option.bind_eq_some_iff.mp h2
 clear h2
 obtain ⟨v2, hv2, h⟩ := Option.bind_eq_some_iff.mp h3
 clear h3
 simp only at hv1 hv2 h
 by_cases c1 : p1 = 0
 case neg => rw [if_neg c1] at h; simp at h
 rw [if_pos c1] at h; subst c1; by_cases c2 : (l1.length : Int) = 2
 case neg => rw [if_neg c2] at h; simp at h
 rw [if_pos c2] at h; by_cases c3 : p2 = 110
 case neg => rw [if_neg c3] at h; simp at h
 rw [if_pos c3] at h; subst c3; by_cases c4 : q2 = 1
 case neg => rw [if_neg c4] at h; simp at h
 rw [if_pos c4] at h; subst c4; by_cases c5 : (v1.length : Int) = 1
 case neg => rw [if_neg c5] at h; simp at h
 rw [if_pos c5] at h; by_cases c6 : 0 < (v1.length : Int)
 case neg => rw [if_neg c6] at h; simp at h
 rw [if_pos c6] at h; by_cases c7 : (((rd_T31 v1 0).f1).length : Int) = 2
 case neg => rw [if_neg c7] at h; simp at h
 rw [if_pos c7] at h; by_cases c8 : (((rd_T31 v1 0).f2).length : Int) = 1
 case neg => rw [if_neg c8] at h; simp at h
 rw [if_pos c8] at h
 have c9 : ((v2.length : Int) == 0) = true := by simpa using h
 have HP1 := Aside0.mk hp1; have HP2 := Aside0.mk hp2; have HV1 := Aside0.mk hv1; have HV2 := Aside0.mk hv2; have HE := Aside0.mk he_; have HB := Aside0.mk (Below.refl w.heap.size w); clear hp1 hp2 hv1 hv2 he_ h
 go_enter Tryz.func9, Tryz.ntmps9
 go_wp2_with fail
 refine (policy_Parse.calls k _ l1 0 q1 w HP1.out HE.out).mono ?_
 rintro e w1 ⟨u1, rfl, ho1, hb⟩
 have HO1 := Aside0.mk ho1
 replace HB := Aside0.mk hb
 clear ho1 hb HP1
 obtain ⟨A1, c1, rfl⟩ := Kd.S_slice HO1.out
 go_wp2_with fail
 refine (policy_Parse.calls k _ l2 110 1 w1 HP2.out (env_below HE.out HB.out)).mono ?_
 rintro e w2 ⟨u2, rfl, ho2, hb⟩
 have HO2 := Aside0.mk ho2
 replace HO1 := Aside0.mk (Kd.S_below HO1.out hb)
 replace HB := Aside0.mk (below_step HB.out hb)
 clear ho2 hb HP2
 obtain ⟨A2, c2', rfl⟩ := Kd.S_slice HO2.out
 go_wp2_with fail
 refine (policy_Views.calls k A1 c1 l1 _ _ 2 v1 w2 (Kd.S_reads' HO1.out).2.2 (Kd.S_reads' HO1.out).2.1 HV1.out (env_below HE.out HB.out)).mono ?_
 rintro e w3 ⟨u3, rfl, ho3, hb⟩
 have HO3 := Aside0.mk ho3
 replace HO1 := Aside0.mk (Kd.S_below HO1.out hb)
 replace HB := Aside0.mk (below_step HB.out hb)
 clear ho3 hb HV1 HO2
 obtain ⟨A3, c3, rfl⟩ := Kd.R_slice HO3.out
 go_wp2_with fail
 refine (policy_Views.calls k A1 c1 l1 _ _ 2 v2 w3 (Kd.S_reads' HO1.out).2.2 (Kd.S_reads' HO1.out).2.1 HV2.out (env_below HE.out HB.out)).mono ?_
 rintro e w4 ⟨u4, rfl, ho4, hb⟩
 have HO4 := Aside0.mk ho4
 replace HO3 := Aside0.mk (Kd.R_below HO3.out hb)
 replace HB := Aside0.mk (below_step HB.out hb)
 clear ho4 hb HV2 HO1
 obtain ⟨A4, c4, rfl⟩ := Kd.R_slice HO4.out
 obtain ⟨ad, B1, d1, B2, d2, e3, hx0, hx1, hx2, _⟩ := at_T31 (kV_C (Kd.R_reads' HO3.out).2.2) 0 (Int.le_refl 0) c6
 subst e3
 simp only [Int.toNat_zero, Nat.zero_mul, show ad.add 0 = ad by simp [Addr.add]] at hx0 hx1 hx2
 have e1 : ((l1.length : Int) == 2) = true := beq_iff_eq.mpr c2
 have e2 : ((v1.length : Int) == 1) = true := beq_iff_eq.mpr c5
 have e4 : (((rd_T31 v1 0).f1.length : Int) == 2) = true := beq_iff_eq.mpr c7
 have e5 : (((rd_T31 v1 0).f2.length : Int) == 1) = true := beq_iff_eq.mpr c8
 have e6 := eq_true c6
 have e7 := eq_true (show 0 < v1.length by omega)
 have e8 : decide (0 < (v1.length : Int)) = true := decide_eq_true c6
 have e9 : decide (0 < v1.length) = true := decide_eq_true (by omega)
 clear c2 c5 c6 c7 c8; go_wp2; go_ret
 exact ⟨rfl, HB.out⟩
end Go.Proofs.YtkedidjjhhjdbaaGreatDoor.Pr
end
section
set_option linter.unusedVariables false
set_option linter.unusedSimpArgs false
namespace Go.Proofs.YtkedidjjhhjdbaaGreatDoor.Pr
open Go.RowKit Go.Proofs.YtkedidjjhhjdbaaGreatDoorW.PrintWords Go.Proofs.YtkedidjjhhjdbaaGreatDoorW.PrintLast Go.Proofs.YtkedidjjhhjdbaaGreatDoorW.PrintMore
theorem wpList_load_on {P : Program} {ops : Array Oper} {rest : List Oper} {o : Oper} {a : Act} {w : World} {Q : Exit → Act → World → Prop} (ty : TypeId) (x : Operand) (ho : o.op = .load ty x)
  (hw : Region.wanted o (yielded ops a.tmps) = true) (g : Nat) (hx : a.eval x = .pointer (some ⟨g, 0, none⟩)) (t : TypeId) (cs : Array Value) (fr : Nat × Nat) (d : TypeDesc) (hg : w.heap[g]? = some (.cells cs t fr))
  (hu : P.underlying ty = some d) (hd : (match d with | .struct _ | .array _ _ => true | _ => false) = true) (hi : (P.info? ty).map (·.size) = some cs.size)
  (h : wpList P ops Q rest (a.put o.dst (.agg cs)) w) : wpList P ops Q (o :: rest) a w := by
 simp only [wpList, hw]; rw [if_pos trivial]
 exact .inl (wp_load_row ty x ho g hx t cs fr d hg hu hd hi h)
structure SeenC (x : Rc) (base : Nat) (r : Option (List S62)) (oc : Array Value) (W : World) : Prop where
  some : ∀ ys, r = some ys → ∃ A c, oc = x.cells (.slice A ys.length c) ∧ Kd.R k62 62 W base (fun _ => True) (.slice A ys.length c) ys
  none : r = none → oc = z52
theorem SeenC.below {x : Rc} {base : Nat} {r : Option (List S62)} {oc : Array Value} {W W' : World} (h : SeenC x base r oc W) (hb : Below W.heap.size W W') : SeenC x base r oc W' := by
 refine ⟨fun ys hy => ?_, h.none⟩
 obtain ⟨A, c, h1, h2⟩ := h.some ys hy
 exact ⟨A, c, h1, Kd.R_below h2 hb⟩
theorem SeenC.setRow {x : Rc} {base : Nat} {r : Option (List S62)} {oc : Array Value} {W : World} (h : SeenC x base r oc W) {g : Nat} {old : Array Value} (hb : W.heap[g]? = .some (.cells old 52 (0, 0))) (cs : Array Value) : SeenC x base r oc (W.setRow g cs) := by
 refine ⟨fun ys hy => ?_, h.none⟩
 obtain ⟨A, c, h1, h2⟩ := h.some ys hy
 exact ⟨A, c, h1, R_setRow h2 hb (by decide) cs⟩
theorem SeenC.lower {x : Rc} {base base' : Nat} {r : Option (List S62)} {oc : Array Value} {W : World} (h : SeenC x base r oc W) (hb : base' ≤ base) : SeenC x base' r oc W := by
 refine ⟨fun ys hy => ?_, h.none⟩
 obtain ⟨A, c, h1, h2⟩ := h.some ys hy
 exact ⟨A, c, h1, Kd.R_lower h2 hb⟩
theorem SeenC.size {x : Rc} (hx : x.ok) {base : Nat} {r : Option (List S62)} {oc : Array Value} {W : World} (h : SeenC x base r oc W) : oc.size = 40 ∧ oc.all (·.oneCell') = true := by
 cases r with
 | none => rw [h.none rfl]; exact ⟨rfl, by kernel_rfl⟩
 | some ys =>
  obtain ⟨A, c, rfl, _⟩ := h.some ys rfl
  exact ⟨Rc.size hx _, Rc.ones x rfl⟩
theorem seen_out {x : Rc} {v : Value} {base : Nat} {r : Option (List S62)} {e : Ending} {W : World} (h : Seen52 (x.cells v) base r e W) : ∃ oc, e = .returned (.tuple #[.agg oc, .bool r.isSome]) ∧ SeenC x base r oc W := by
 cases r with
 | none => exact ⟨z52, h, ⟨fun _ h => (by cases h), fun _ => rfl⟩⟩
 | some ys =>
  obtain ⟨u, he, hR⟩ := h
  obtain ⟨A, c, rfl⟩ := Kd.R_slice hR
  refine ⟨_, he, ⟨fun ys' hy => ?_, fun h => (by cases h)⟩⟩
  obtain rfl := Option.some.inj hy
  exact ⟨A, c, Rc.set2 x _ _, hR⟩
end Go.Proofs.YtkedidjjhhjdbaaGreatDoor.Pr
end
section
set_option linter.unusedVariables false
set_option linter.unusedSimpArgs false
namespace Go.Proofs.YtkedidjjhhjdbaaGreatDoor.Pr
open Go.RowKit Go.Proofs.YtkedidjjhhjdbaaGreatDoorW.PrintWords Go.Proofs.YtkedidjjhhjdbaaGreatDoorW.PrintLast Go.Proofs.YtkedidjjhhjdbaaGreatDoorW.PrintMore
theorem known_at : belfrylaw11_known.f 60 = some true := by kernel_rfl
def valsB (B : Nat) (l : List S33) : Prop := ∀ m ∈ l, m.f2.size ≤ B
theorem bothL_vals {B : Nat} {a b : List S33} (ha : valsB B a) (hb : valsB B b) : valsB B (bothL a b).1 := by
 have hi : valsB B (insAllU [] (a ++ b)) := fun m hm => by
  rcases (insAllU_mem m (a ++ b) []).1 hm with h | h
  · cases h
  exact (List.mem_append.1 h).elim (ha m) (hb m)
 unfold bothL
 split
 · intro m hm; cases hm
 split
 · exact hi
 intro m hm; cases hm
theorem denL_vals {B : Nat} : ∀ D : List S46, (∀ r ∈ D, valsB B r.f3) → valsB B (denL D).1
 | [], _ => fun m hm => by cases hm
 | r :: D, h => by
  have ih := denL_vals D (fun x hx => h x (List.mem_cons_of_mem _ hx))
  have hr := h r (List.mem_cons_self ..); rw [denL]
  cases e : r.f3 with
  | nil => exact ih
  | cons m t =>
   intro q hq
   rcases List.mem_cons.1 hq with rfl | hq
   rotate_left
   · exact ih q hq
   exact hr m (by rw [e]; exact List.mem_cons_self ..)
theorem viewsL_vals {B : Nat} (o : ByteArray) (nt : List S33) (hn : valsB B nt) : ∀ A : List S46, (∀ r ∈ A, valsB B r.f3) → ∀ x ∈ viewsL o nt A, valsB B x.f1
 | [], _ => fun x hx => by cases hx
 | r :: A, h => by
  have ih := viewsL_vals o nt hn A (fun x hx => h x (List.mem_cons_of_mem _ hx))
  rw [viewsL]
  split
  rotate_left
  · exact ih
  intro x hx
  rcases List.mem_cons.1 hx with rfl | hx
  rotate_left
  · exact ih x hx
  exact bothL_vals (h r (List.mem_cons_self ..)) hn
theorem viewsR_vals {B : Nat} (l : List S46) (o v : ByteArray) (kd : Int) (h : ∀ r ∈ l, valsB B r.f3) : ∀ x ∈ viewsR l o v kd, valsB B x.f1 := by
 unfold viewsR
 split
 · intro x hx; cases hx
 split
 ·
  intro x hx; rw [List.mem_singleton.1 hx]
  intro m hm; cases hm
 split
 · intro x hx; cases hx
 exact viewsL_vals o _ (denL_vals _ (fun r hr => h r (List.mem_filter.1 (List.mem_filter.1 hr).1).1)) _ (fun r hr => h r (List.mem_filter.1 (List.mem_filter.1 hr).1).1)
theorem viewsR_V {l : List S46} (o v : ByteArray) (kd : Int) (h : ∀ r ∈ l, valsB 1048576 r.f3) : smallV (viewsR l o v kd) := fun x hx => by
 have h1 := (viewsR_small l o v kd).2 x hx
 exact ⟨⟨by omega, fun m hm => Nat.le_trans (viewsR_vals l o v kd h x hx m hm) (by omega)⟩, by omega⟩
theorem same_ev (r : Option (List S62)) (hr : ∀ ys, r = some ys → ys.length < 4611686018427387904) : ∃ K, ∀ k, K ≤ k → ∀ ys, r = some ys → belfryref04_Same.f k ys ys = some true := by
 cases r with
 | none => exact ⟨0, fun _ _ ys h => by cases h⟩
 | some ys =>
  obtain ⟨K, hK⟩ := sameA_refl ys (hr ys rfl)
  exact ⟨K, fun k hk zs hz => by cases hz; exact hK k hk⟩
end Go.Proofs.YtkedidjjhhjdbaaGreatDoor.Pr
end
section
set_option linter.unusedVariables false
set_option linter.unusedSimpArgs false
namespace Go.Proofs.YtkedidjjhhjdbaaGreatDoor.Pr
open Go Go.RowKit Go.ChangeShapes Go.WideShapes Go.Deep Go.Proofs.YtkedidjjhhjdbaaGreatDoorW.PrintWords Go.Proofs.YtkedidjjhhjdbaaGreatDoorW.PrintLast Go.Proofs.YtkedidjjhhjdbaaGreatDoorW.PrintMore
theorem bulk_part {H : Type} {d : DataW H} {l : List (DataW H)} (h : d ∈ l) : Rows.uptoBulk d ≤ Rows.uptoBulkAll l := by
 induction l with
 | nil => cases h
 | cons x r ih =>
  simp only [Rows.uptoBulkAll]
  cases List.mem_cons.1 h with
  | inl e => subst e; omega
  | inr e => have := ih e; omega
theorem bulk_pos {H : Type} (d : DataW H) : 1 ≤ Rows.uptoBulk d := by
 cases d with
 | lit l => cases l <;> simp [Rows.uptoBulk]
 | nil => simp [Rows.uptoBulk]
 | ptr d => simp [Rows.uptoBulk]
 | slice elems spare => simp [Rows.uptoBulk]
 | agg parts => simp [Rows.uptoBulk]
 | iface t d => simp [Rows.uptoBulk]
 | map entries => simp [Rows.uptoBulk]
 | held h => simp [Rows.uptoBulk]
theorem bulk_len {H : Type} (l : List (DataW H)) : l.length ≤ Rows.uptoBulkAll l := by
 induction l with
 | nil => simp [Rows.uptoBulkAll]
 | cons x r ih => have := bulk_pos x; simp only [Rows.uptoBulkAll, List.length_cons]; omega
theorem bulk_str {H : Type} {y : DataW H} {s : ByteArray} (h : y = .lit (.string s.data.toList)) : s.size + 1 = Rows.uptoBulk y := by
 subst h; simp only [Rows.uptoBulk, Array.length_toList]; rfl
def Bk {H : Type} (d : DataW H) : Prop := Rows.uptoBulk d ≤ 1048576
section
variable {H : Type}
theorem Bk.slice {e s : List (DataW H)} (h : Bk (.slice e s)) : e.length ≤ 1048576 ∧ ∀ x ∈ e, Bk x := by
 unfold Bk at h
 simp only [Rows.uptoBulk] at h
 have h1 := bulk_len e
 exact ⟨by omega, fun x hx => by have := bulk_part hx; unfold Bk; omega⟩
theorem Bk.agg {e : List (DataW H)} (h : Bk (.agg e)) : ∀ x ∈ e, Bk x := by
 unfold Bk at h
 simp only [Rows.uptoBulk] at h
 exact fun x hx => by have := bulk_part hx; unfold Bk; omega
theorem Bk.str {s : ByteArray} (h : Bk (.lit (.string s.data.toList) : DataW H)) : s.size ≤ 1048576 := by
 have := bulk_str (H := H) (s := s) rfl
 unfold Bk at h
 omega
end
theorem lcons {n : Nat} : ∀ l : List Value, l.length = n + 1 → ∃ c t, l = c :: t ∧ t.length = n
 | [], h => by cases h
 | c :: t, h => ⟨c, t, rfl, Nat.succ.inj h⟩
section
variable {H : Type} {enc : TypeId × Value → H} {W : World} {base : Nat} {spare : Nat → Bool} {held : Bool}
theorem fld {fs : Array Field} {cs : List Value} {n : Nat} {ys : List (DataW H × List MemPlace)} (hf : ∀ (i : Nat) (f : Field), fs[i]? = some f → DataW.trod enc Tryz.prog W base spare held n f.type ((cs.drop f.offset).take (Tryz.prog.cellsOf f.type)) = ys[i]?)
  {i : Nat} {f : Field} {T o k : Nat} (hi : fs[i]? = some f) (ht : f.type = T) (ho : f.offset = o) (hc : Tryz.prog.cellsOf T = k) : DataW.trod enc Tryz.prog W base spare held n T ((cs.drop o).take k) = ys[i]? := by
 have := hf i f hi
 rw [ht, ho, hc] at this; exact this
theorem matchers_bk {fuel : Nat} {v : Value} {y : DataW H × List MemPlace} (h : DataW.trod enc Tryz.prog W base spare held fuel 28 [v] = some y) (hs : Bk y.1) :
  ∃ (A : Option Addr) (l : List S33) (c : Nat), v = .slice A l.length c ∧ l.length ≤ c ∧ l.length ≤ 1048576 ∧ k33.C W A l.length l ∧ valsB 1048576 l := by
 rcases open_slice_fields Tryz.underlying28 Tryz.underlying33 (by kernel_rfl) (by kernel_rfl) h with ⟨hcs, _⟩ | ⟨x, len, cap, m, D, Pl, hcs, _, hl, hm, hmm, hx, hi⟩
 ·
  obtain rfl := List.singleton_inj.1 hcs
  exact ⟨none, [], 0, rfl, Nat.le_refl _, by simp, C_none, fun _ h => by cases h⟩
 obtain rfl := List.singleton_inj.1 hcs
 subst hx
 obtain ⟨z, hz⟩ := hs.slice
 simp only [List.length_map, List.length_range] at z
 have hlm : len ≤ m := by rw [hmm]; split <;> omega
 obtain ⟨xs, hxl, hxs⟩ := list_of (Q := fun i (y : S33) => (W.cell? (x.add (i * 3 + 0)) = some (.int .i64 y.f0) ∧ W.cell? (x.add (i * 3 + 1)) = some (.string y.f1) ∧ W.cell? (x.add (i * 3 + 2)) = some (.string y.f2)) ∧ y.f2.size ≤ 1048576) len (fun i hil => by
  obtain ⟨ys, n, hD, _, _, hfld⟩ := hi i (by omega)
  have hDs : Bk (.agg (ys.map (·.1)) : DataW H) := by
   rw [← hD]
   exact hz _ (List.mem_map.2 ⟨i, List.mem_range.2 hil, rfl⟩)
  obtain ⟨v0, y0, hc0, _, ht0⟩ := hfld 0 _ rfl
  obtain ⟨v1, y1, hc1, _, ht1⟩ := hfld 1 _ rfl
  obtain ⟨v2, y2, hc2, hy2, ht2⟩ := hfld 2 _ rfl
  obtain ⟨n0, e0, _, _⟩ := DataW.trod_int Tryz.underlying3 ht0
  obtain ⟨s1, e1, _, _⟩ := DataW.trod_string Tryz.underlying9 ht1
  obtain ⟨s2, e2, g2, _⟩ := DataW.trod_string Tryz.underlying9 ht2
  have hb2 : Bk y2.1 := hDs.agg _ (List.mem_map.2 ⟨y2, List.mem_of_getElem? hy2, rfl⟩)
  rw [g2] at hb2
  simp at e0 e1 e2
  subst e0 e1 e2
  exact ⟨⟨n0, s1, s2⟩, ⟨hc0, hc1, hc2⟩, hb2.str⟩)
 subst hxl
 refine ⟨some x, xs, cap, rfl, hl, by omega, C_elems (by omega) (fun j p hp => ⟨_, rfl, k33_mk W p, ?_⟩), fun p hp => ?_⟩
 rotate_left
 ·
  obtain ⟨j, hj⟩ := List.getElem?_of_mem hp
  exact (hxs j p hj).2
 obtain ⟨⟨c0, c1, c2⟩, _⟩ := hxs j p hp
 intro i u hu
 match i, hu with
 | 0, hu => cases hu; exact c0
 | 1, hu => cases hu; exact c1
 | 2, hu => cases hu; exact c2
 | (i + 3), hu => cases hu
theorem texts_bk {fuel : Nat} {v : Value} {y : DataW H × List MemPlace} (h : DataW.trod enc Tryz.prog W base spare held fuel 29 [v] = some y) (hs : Bk y.1) :
  ∃ (A : Option Addr) (l : List ByteArray) (c : Nat), v = .slice A l.length c ∧ l.length ≤ c ∧ l.length ≤ 1048576 ∧ Kd.string.C W A l.length l := by
 rcases open_strings Tryz.underlying29 Tryz.underlying9 (by kernel_rfl) h with ⟨hcs, _⟩ | ⟨x, len, c, ss, hcs, _, hl, hm, hss, hx, hc, _⟩
 ·
  obtain rfl := List.singleton_inj.1 hcs
  exact ⟨none, [], 0, rfl, Nat.le_refl _, by simp, C_none⟩
 obtain rfl := List.singleton_inj.1 hcs
 subst hx
 have hlm : len ≤ ss.length := by rw [hss]; split <;> omega
 have z := hs.slice.1
 have hlen : (ss.take len).length = len := by simp; omega
 have e1 : (strs (H := H) (ss.take len)).length = len := by simp [strs]; omega
 rw [e1] at z
 have := C_elems (d := Kd.string) (W := W) (x := x) (xs := ss.take len) (by omega) (fun j p hp => ⟨[.string p], rfl, rfl, fun i u hu => by
  match i, hu with
  | 0, hu =>
   cases hu; rw [List.getElem?_take] at hp
   split at hp
   rotate_left
   · cases hp
   have hq := hc j (by omega)
   show W.cell? (x.add (j * 1 + 0)) = _
   rw [Nat.mul_one, Nat.add_zero, hq, List.getD_eq_getElem?_getD, hp]; rfl
  | (i + 1), hu => cases hu⟩)
 refine ⟨some x, ss.take len, c, by rw [hlen], by omega, by omega, this⟩
theorem attrs_bk {fuel : Nat} {v : Value} {y : DataW H × List MemPlace} (h : DataW.trod enc Tryz.prog W base spare held fuel 48 [v] = some y) (hs : Bk y.1) :
  ∃ (A : Option Addr) (l : List S62) (c : Nat), v = .slice A l.length c ∧ l.length ≤ c ∧ l.length ≤ 1048576 ∧ k62.C W A l.length l ∧ ∀ x ∈ l, x.f1.size ≤ 1048576 := by
 rcases open_slice_fields Tryz.underlying48 Tryz.underlying62 (by kernel_rfl) (by kernel_rfl) h with ⟨hcs, _⟩ | ⟨x, len, cap, m, D, Pl, hcs, _, hl, hm, hmm, hx, hi⟩
 ·
  obtain rfl := List.singleton_inj.1 hcs
  exact ⟨none, [], 0, rfl, Nat.le_refl _, by simp, C_none, fun _ h => by cases h⟩
 obtain rfl := List.singleton_inj.1 hcs
 subst hx
 obtain ⟨z, hz⟩ := hs.slice
 simp only [List.length_map, List.length_range] at z
 have hlm : len ≤ m := by rw [hmm]; split <;> omega
 obtain ⟨xs, hxl, hxs⟩ := list_of (Q := fun i (y : S62) => (W.cell? (x.add (i * 2 + 0)) = some (.string y.f0) ∧ W.cell? (x.add (i * 2 + 1)) = some (.string y.f1)) ∧ y.f1.size ≤ 1048576) len (fun i hil => by
  obtain ⟨ys, n, hD, _, _, hfld⟩ := hi i (by omega)
  have hDs : Bk (.agg (ys.map (·.1)) : DataW H) := by
   rw [← hD]
   exact hz _ (List.mem_map.2 ⟨i, List.mem_range.2 hil, rfl⟩)
  obtain ⟨v0, y0, hc0, _, ht0⟩ := hfld 0 _ rfl
  obtain ⟨v1, y1, hc1, hy1, ht1⟩ := hfld 1 _ rfl
  obtain ⟨s0, e0, _, _⟩ := DataW.trod_string Tryz.underlying9 ht0
  obtain ⟨s1, e1, g1, _⟩ := DataW.trod_string Tryz.underlying9 ht1
  have hb1 : Bk y1.1 := hDs.agg _ (List.mem_map.2 ⟨y1, List.mem_of_getElem? hy1, rfl⟩)
  rw [g1] at hb1
  simp at e0 e1
  subst e0 e1
  exact ⟨⟨s0, s1⟩, ⟨hc0, hc1⟩, hb1.str⟩)
 subst hxl
 refine ⟨some x, xs, cap, rfl, hl, by omega, C_elems (by omega) (fun j p hp => ⟨_, rfl, k62_mk W p, ?_⟩), fun p hp => ?_⟩
 rotate_left
 ·
  obtain ⟨j, hj⟩ := List.getElem?_of_mem hp
  exact (hxs j p hj).2
 obtain ⟨⟨c0, c1⟩, _⟩ := hxs j p hp
 intro i u hu
 match i, hu with
 | 0, hu => cases hu; exact c0
 | 1, hu => cases hu; exact c1
 | (i + 2), hu => cases hu
theorem rules_bk {fuel : Nat} {v : Value} {y : DataW H × List MemPlace} (h : DataW.trod enc Tryz.prog W base spare held fuel 22 [v] = some y) (hs : Bk y.1) :
  ∃ (A : Option Addr) (l : List S46) (c : Nat), v = .slice A l.length c ∧ l.length ≤ c ∧ l.length ≤ 1048576 ∧ k46.C W A l.length l ∧ ∀ x ∈ l, valsB 1048576 x.f3 ∧ x.f3.length ≤ 1048576 ∧ x.f4.length ≤ 1048576 := by
 rcases open_slice_fields Tryz.underlying22 Tryz.underlying46 (by kernel_rfl) (by kernel_rfl) h with ⟨hcs, _⟩ | ⟨x, len, cap, m, D, Pl, hcs, _, hl, hm, hmm, hx, hi⟩
 ·
  obtain rfl := List.singleton_inj.1 hcs
  exact ⟨none, [], 0, rfl, Nat.le_refl _, by simp, C_none, fun x h => by cases h⟩
 obtain rfl := List.singleton_inj.1 hcs
 subst hx
 obtain ⟨z, hz⟩ := hs.slice
 simp only [List.length_map, List.length_range] at z
 have hlm : len ≤ m := by rw [hmm]; split <;> omega
 obtain ⟨xs, hxl, hxs⟩ := list_of (Q := fun i (y : S46) => (∃ cs, cs.length = k46.sz ∧ k46.K W y cs ∧ ∀ j u, cs[j]? = some u → W.cell? (x.add (i * 5 + j)) = some u) ∧ valsB 1048576 y.f3 ∧ y.f3.length ≤ 1048576 ∧ y.f4.length ≤ 1048576) len (fun i hil => by
  obtain ⟨ys, n, hD, _, hyl, hfld⟩ := hi i (by omega)
  have hDs : Bk (.agg (ys.map (·.1)) : DataW H) := by
   rw [← hD]
   exact hz _ (List.mem_map.2 ⟨i, List.mem_range.2 hil, rfl⟩)
  obtain ⟨v0, y0, hc0, _, ht0⟩ := hfld 0 _ rfl
  obtain ⟨v1, y1, hc1, _, ht1⟩ := hfld 1 _ rfl
  obtain ⟨v2, y2, hc2, _, ht2⟩ := hfld 2 _ rfl
  obtain ⟨v3, y3, hc3, hy3, ht3⟩ := hfld 3 _ rfl
  obtain ⟨v4, y4, hc4, hy4, ht4⟩ := hfld 4 _ rfl
  obtain ⟨b0, e0, _⟩ := DataW.trod_bool Tryz.underlying4 ht0
  obtain ⟨n1, e1, _, _⟩ := DataW.trod_int Tryz.underlying3 ht1
  obtain ⟨s2, e2, _, _⟩ := DataW.trod_string Tryz.underlying9 ht2
  obtain ⟨A3, l3, c3, rfl, hl3, hb3, hC3, hv3⟩ := matchers_bk ht3 (hDs.agg _ (List.mem_map.2 ⟨y3, List.mem_of_getElem? hy3, rfl⟩))
  obtain ⟨A4, l4, c4, rfl, hl4, hb4, hC4⟩ := texts_bk ht4 (hDs.agg _ (List.mem_map.2 ⟨y4, List.mem_of_getElem? hy4, rfl⟩))
  simp at e0 e1 e2
  subst e0 e1 e2
  refine ⟨⟨b0, n1, s2, l3, l4⟩, ⟨_, ?_, k46_mk W ⟨b0, n1, s2, l3, l4⟩ hl3 hC3 hl4 hC4, ?_⟩, hv3, hb3, hb4⟩
  · rfl
  intro j u hu
  match j, hu with
  | 0, hu => cases hu; exact hc0
  | 1, hu => cases hu; exact hc1
  | 2, hu => cases hu; exact hc2
  | 3, hu => cases hu; exact hc3
  | 4, hu => cases hu; exact hc4
  | (j + 5), hu => cases hu)
 subst hxl
 refine ⟨some x, xs, cap, rfl, hl, by omega, C_elems (by omega) (fun j p hp => (hxs j p hp).1), fun p hp => ?_⟩
 obtain ⟨j, hj⟩ := List.getElem?_of_mem hp
 exact (hxs j p hj).2
theorem ints_of {T n : Nat} (hu : Tryz.prog.underlying T = some (.array n 5)) (hc : Tryz.prog.cellsOf T = n) {fuel : Nat} {cs : List Value} {y : DataW H × List MemPlace} (h : DataW.trod enc Tryz.prog W base spare held fuel T cs = some y) :
  ∃ xs : List Int, xs.length = n ∧ cs = xs.map (Value.int .u8) := by
 obtain ⟨ys, m, _, _, hcl, hyl, hf⟩ := DataW.trod_array hu h
 rw [hc] at hcl
 obtain ⟨xs, hxl, hxs⟩ := list_of (Q := fun i (k : Int) => cs[i]? = some (.int .u8 k)) n (fun i hi => by
  have h1 := hf i hi
  rw [show Tryz.prog.cellsOf 5 = 1 by kernel_rfl, Nat.mul_one, List.getElem?_eq_getElem (show i < ys.length by omega)] at h1
  obtain ⟨k, e, _⟩ := DataW.trod_int Tryz.underlying5 h1
  refine ⟨k, ?_⟩
  have := congrArg (fun l => l[0]?) e
  simpa [List.getElem?_take, List.getElem?_drop] using this)
 refine ⟨xs, hxl, List.ext_getElem? fun i => ?_⟩
 rw [List.getElem?_map]
 rcases Nat.lt_or_ge i n with hi | hi
 rotate_left
 · rw [List.getElem?_eq_none (by omega), List.getElem?_eq_none (by omega)]; rfl
 have hx : xs[i]? = some xs[i] := List.getElem?_eq_getElem (by omega)
 rw [hxs i _ hx, hx]; rfl
theorem record_bk {fuel : Nat} {cs : List Value} {y : DataW H × List MemPlace} (h : DataW.trod enc Tryz.prog W base spare held fuel 52 cs = some y) (hs : Bk y.1) :
  ∃ (x : Rc) (A : Option Addr) (l : List S62) (c : Nat), x.ok ∧ cs = (x.cells (.slice A l.length c)).toList ∧ l.length ≤ c ∧ l.length ≤ 1048576 ∧ k62.C W A l.length l ∧ ∀ z ∈ l, z.f1.size ≤ 1048576 := by
 obtain ⟨ys, n, _, hy, hcl, hyl, hf⟩ := DataW.trod_struct Tryz.underlying52 h
 rw [show Tryz.prog.cellsOf 52 = 40 by kernel_rfl] at hcl
 obtain ⟨c0, u0, rfl, g0⟩ := lcons cs hcl
 obtain ⟨c1, u1, rfl, g1⟩ := lcons u0 g0
 obtain ⟨c2, u2, rfl, g2⟩ := lcons u1 g1
 obtain ⟨c3, u3, rfl, g3⟩ := lcons u2 g2
 obtain ⟨c4, u4, rfl, g4⟩ := lcons u3 g3
 obtain ⟨c5, u5, rfl, g5⟩ := lcons u4 g4
 obtain ⟨c6, u6, rfl, g6⟩ := lcons u5 g5
 obtain ⟨c7, u7, rfl, g7⟩ := lcons u6 g6
 obtain ⟨c8, u8, rfl, g8⟩ := lcons u7 g7
 obtain ⟨c9, u9, rfl, g9⟩ := lcons u8 g8
 obtain ⟨c10, u10, rfl, g10⟩ := lcons u9 g9
 obtain ⟨c11, u11, rfl, g11⟩ := lcons u10 g10
 obtain ⟨c12, u12, rfl, g12⟩ := lcons u11 g11
 obtain ⟨c13, u13, rfl, g13⟩ := lcons u12 g12
 obtain ⟨c14, u14, rfl, g14⟩ := lcons u13 g13
 obtain ⟨c15, u15, rfl, g15⟩ := lcons u14 g14
 obtain ⟨c16, u16, rfl, g16⟩ := lcons u15 g15
 obtain ⟨c17, u17, rfl, g17⟩ := lcons u16 g16
 obtain ⟨c18, u18, rfl, g18⟩ := lcons u17 g17
 obtain ⟨c19, u19, rfl, g19⟩ := lcons u18 g18
 obtain ⟨c20, u20, rfl, g20⟩ := lcons u19 g19
 obtain ⟨c21, u21, rfl, g21⟩ := lcons u20 g20
 obtain ⟨c22, u22, rfl, g22⟩ := lcons u21 g21
 obtain ⟨c23, u23, rfl, g23⟩ := lcons u22 g22
 obtain ⟨c24, u24, rfl, g24⟩ := lcons u23 g23
 obtain ⟨c25, u25, rfl, g25⟩ := lcons u24 g24
 obtain ⟨c26, u26, rfl, g26⟩ := lcons u25 g25
 obtain ⟨c27, u27, rfl, g27⟩ := lcons u26 g26
 obtain ⟨c28, u28, rfl, g28⟩ := lcons u27 g27
 obtain ⟨c29, u29, rfl, g29⟩ := lcons u28 g28
 obtain ⟨c30, u30, rfl, g30⟩ := lcons u29 g29
 obtain ⟨c31, u31, rfl, g31⟩ := lcons u30 g30
 obtain ⟨c32, u32, rfl, g32⟩ := lcons u31 g31
 obtain ⟨c33, u33, rfl, g33⟩ := lcons u32 g32
 obtain ⟨c34, u34, rfl, g34⟩ := lcons u33 g33
 obtain ⟨c35, u35, rfl, g35⟩ := lcons u34 g34
 obtain ⟨c36, u36, rfl, g36⟩ := lcons u35 g35
 obtain ⟨c37, u37, rfl, g37⟩ := lcons u36 g36
 obtain ⟨c38, u38, rfl, g38⟩ := lcons u37 g37
 obtain ⟨c39, u39, rfl, g39⟩ := lcons u38 g38
 obtain rfl := List.eq_nil_of_length_eq_zero g39
 subst hy
 have t0 : DataW.trod enc Tryz.prog W base spare held n 3 [c0] = ys[0]? := fld hf (i := 0) rfl rfl rfl (by kernel_rfl) (k := 1) (o := 0)
 rw [List.getElem?_eq_getElem (by rw [hyl]; exact (by decide : 0 < 11))] at t0
 have t1 : DataW.trod enc Tryz.prog W base spare held n 9 [c1] = ys[1]? := fld hf (i := 1) rfl rfl rfl (by kernel_rfl) (k := 1) (o := 1)
 rw [List.getElem?_eq_getElem (by rw [hyl]; exact (by decide : 1 < 11))] at t1
 have t2 : DataW.trod enc Tryz.prog W base spare held n 48 [c2] = ys[2]? := fld hf (i := 2) rfl rfl rfl (by kernel_rfl) (k := 1) (o := 2)
 rw [List.getElem?_eq_getElem (by rw [hyl]; exact (by decide : 2 < 11))] at t2
 have t3 : DataW.trod enc Tryz.prog W base spare held n 2 [c3] = ys[3]? := fld hf (i := 3) rfl rfl rfl (by kernel_rfl) (k := 1) (o := 3)
 rw [List.getElem?_eq_getElem (by rw [hyl]; exact (by decide : 3 < 11))] at t3
 have t4 : DataW.trod enc Tryz.prog W base spare held n 2 [c4] = ys[4]? := fld hf (i := 4) rfl rfl rfl (by kernel_rfl) (k := 1) (o := 4)
 rw [List.getElem?_eq_getElem (by rw [hyl]; exact (by decide : 4 < 11))] at t4
 have t5 : DataW.trod enc Tryz.prog W base spare held n 2 [c5] = ys[5]? := fld hf (i := 5) rfl rfl rfl (by kernel_rfl) (k := 1) (o := 5)
 rw [List.getElem?_eq_getElem (by rw [hyl]; exact (by decide : 5 < 11))] at t5
 have t6 : DataW.trod enc Tryz.prog W base spare held n 3 [c6] = ys[6]? := fld hf (i := 6) rfl rfl rfl (by kernel_rfl) (k := 1) (o := 6)
 rw [List.getElem?_eq_getElem (by rw [hyl]; exact (by decide : 6 < 11))] at t6
 have t7 : DataW.trod enc Tryz.prog W base spare held n 9 [c7] = ys[7]? := fld hf (i := 7) rfl rfl rfl (by kernel_rfl) (k := 1) (o := 7)
 rw [List.getElem?_eq_getElem (by rw [hyl]; exact (by decide : 7 < 11))] at t7
 have t8 : DataW.trod enc Tryz.prog W base spare held n 49 [c8, c9, c10, c11, c12, c13, c14, c15, c16, c17, c18, c19, c20, c21, c22, c23] = ys[8]? := fld hf (i := 8) rfl rfl rfl (by kernel_rfl) (k := 16) (o := 8)
 rw [List.getElem?_eq_getElem (by rw [hyl]; exact (by decide : 8 < 11))] at t8
 have t9 : DataW.trod enc Tryz.prog W base spare held n 50 [c24, c25, c26, c27, c28, c29, c30, c31] = ys[9]? := fld hf (i := 9) rfl rfl rfl (by kernel_rfl) (k := 8) (o := 24)
 rw [List.getElem?_eq_getElem (by rw [hyl]; exact (by decide : 9 < 11))] at t9
 have t10 : DataW.trod enc Tryz.prog W base spare held n 50 [c32, c33, c34, c35, c36, c37, c38, c39] = ys[10]? := fld hf (i := 10) rfl rfl rfl (by kernel_rfl) (k := 8) (o := 32)
 rw [List.getElem?_eq_getElem (by rw [hyl]; exact (by decide : 10 < 11))] at t10
 obtain ⟨n0, e0, _, _⟩ := DataW.trod_int Tryz.underlying3 t0
 obtain ⟨s1, e1, _, _⟩ := DataW.trod_string Tryz.underlying9 t1
 obtain ⟨A, l, c, rfl, hl, hb, hC, hv⟩ := attrs_bk t2 (hs.agg _ (List.mem_map.2 ⟨_, List.getElem_mem _, rfl⟩))
 obtain ⟨n3, e3, _, _⟩ := DataW.trod_int Tryz.underlying2 t3
 obtain ⟨n4, e4, _, _⟩ := DataW.trod_int Tryz.underlying2 t4
 obtain ⟨n5, e5, _, _⟩ := DataW.trod_int Tryz.underlying2 t5
 obtain ⟨n6, e6, _, _⟩ := DataW.trod_int Tryz.underlying3 t6
 obtain ⟨s7, e7, _, _⟩ := DataW.trod_string Tryz.underlying9 t7
 obtain ⟨tr, h8, e8⟩ := ints_of Tryz.underlying49 (by kernel_rfl) t8
 obtain ⟨sid, h9, e9⟩ := ints_of Tryz.underlying50 (by kernel_rfl) t9
 obtain ⟨pa, h10, e10⟩ := ints_of Tryz.underlying50 (by kernel_rfl) t10
 refine ⟨⟨n0, s1, n3, n4, n5, n6, s7, tr, sid, pa⟩, A, l, c, ⟨h8, h9, h10⟩, ?_, hl, hb, hC, hv⟩
 show [c0, c1, Value.slice A l.length c, c3, c4, c5, c6, c7, c8, c9, c10, c11, c12, c13, c14, c15, c16, c17, c18, c19, c20, c21, c22, c23, c24, c25, c26, c27, c28, c29, c30, c31, c32, c33, c34, c35, c36, c37, c38, c39] = _
 show [c0] ++ [c1] ++ [Value.slice A l.length c] ++ [c3] ++ [c4] ++ [c5] ++ [c6] ++ [c7] ++ ([c8, c9, c10, c11, c12, c13, c14, c15, c16, c17, c18, c19, c20, c21, c22, c23] ++ ([c24, c25, c26, c27, c28, c29, c30, c31] ++ [c32, c33, c34, c35, c36, c37, c38, c39])) = _
 rw [e0, e1, e3, e4, e5, e6, e7, e8, e9, e10]; rfl
end
end Go.Proofs.YtkedidjjhhjdbaaGreatDoor.Pr
end
section
set_option linter.unusedVariables false
set_option linter.unusedSimpArgs false
namespace Go.Proofs.YtkedidjjhhjdbaaGreatDoor.Pr
open Go.RowKit Go.Proofs.YtkedidjjhhjdbaaGreatDoorW.PrintWords Go.Proofs.YtkedidjjhhjdbaaGreatDoorW.PrintLast Go.Proofs.YtkedidjjhhjdbaaGreatDoorW.PrintMore
def Wr (e sz lo hi : Nat) (W : World) (v : Value) : Prop := ∃ A m c, v = .slice A m c ∧ m ≤ c ∧ m ≤ 9223372036854775807 ∧ (m = 0 ∨ ∃ g cur, A = some ⟨g, 0, none⟩ ∧ lo ≤ g ∧ g < hi ∧ W.heap[g]? = some (.cells cur e (0, 0)) ∧ m * sz ≤ cur.size)
theorem Wr.set {e sz lo hi : Nat} {W : World} {v : Value} (h : Wr e sz lo hi W v) {g t : Nat} {cs : Array Value} (hb : W.heap[g]? = some (.cells cs t (0, 0))) (j : Nat) (u : Value) : Wr e sz lo hi (W.setCell ⟨g, j, none⟩ u) v := by
 obtain ⟨A, m, c, rfl, hc, hm, h⟩ := h
 refine ⟨A, m, c, rfl, hc, hm, ?_⟩
 rcases h with rfl | ⟨g1, cur, rfl, h1, h2, h3, h4⟩
 · exact .inl rfl
 by_cases hg : g1 = g; rotate_left
 · exact .inr ⟨g1, cur, rfl, h1, h2, blk_far h3 (by simpa using hg) u, h4⟩
 subst hg; rw [hb] at h3
 injection h3 with h3
 injection h3 with h5 h6
 subst h5; subst h6
 exact .inr ⟨g1, _, rfl, h1, h2, blk_set hb j u, by simpa using h4⟩
structure Spl (T st o1 o2 lo hi n : Nat) (f1 f2 : Nat → Value) (g : Nat) (W : World) : Prop where
  out : ∃ cur, W.heap[g]? = some (.cells cur T (0, 0)) ∧ ∀ i, i < n → cur[i * st + o1]? = some (f1 i) ∧ cur[i * st + o2]? = some (f2 i)
  in1 : ∀ i, i < n → Wr 33 3 lo hi W (f1 i)
  in2 : ∀ i, i < n → Wr 9 1 lo hi W (f2 i)
theorem Spl.set {T st o1 o2 lo hi n : Nat} {f1 f2 : Nat → Value} {g : Nat} {W : World} (h : Spl T st o1 o2 lo hi n f1 f2 g W) {g' t : Nat} {cs : Array Value} (hb : W.heap[g']? = some (.cells cs t (0, 0))) (ht : T ≠ t) (j : Nat) (u : Value) : Spl T st o1 o2 lo hi n f1 f2 g (W.setCell ⟨g', j, none⟩ u) := by
 obtain ⟨⟨cur, hc, hf⟩, h1, h2⟩ := h
 exact ⟨⟨cur, blk_far hc (blk_ne hc hb ht) u, hf⟩, fun i hi => (h1 i hi).set hb j u, fun i hi => (h2 i hi).set hb j u⟩
theorem Spl.drewN {T st o1 o2 lo hi n : Nat} {f1 f2 : Nat → Value} {g : Nat} {W : World} (h : Spl T st o1 o2 lo hi n f1 f2 g W) (m : Nat) : Spl T st o1 o2 lo hi n f1 f2 g (W.drewN m) := ⟨h.out, h.in1, h.in2⟩
structure Chg (lo hi : Nat) (W W' : World) : Prop where
  be : Below lo W W'
  up : ∀ k, hi ≤ k → W'.heap[k]? = W.heap[k]?
theorem Chg.refl (lo hi : Nat) (W : World) : Chg lo hi W W := ⟨Below.refl _ _, fun _ _ => rfl⟩
theorem Chg.set {lo hi : Nat} {W W' : World} (h : Chg lo hi W W') {g : Nat} (h1 : lo ≤ g) (h2 : g < hi) (j : Nat) (u : Value) : Chg lo hi W (W'.setCell ⟨g, j, none⟩ u) :=
 ⟨h.be.setCell h1 u, fun k hk => (Below.heap_setCell W' ⟨g, j, none⟩ u k (by show k ≠ g; omega)).trans (h.up k hk)⟩
theorem Wr.at {e sz lo hi : Nat} {W : World} {A : Option Addr} {m c : Nat} (h : Wr e sz lo hi W (.slice A m c)) (hs : 0 < sz) (k : Nat) (hk : k < m) : ∃ g cur u, A = some ⟨g, 0, none⟩ ∧ lo ≤ g ∧ g < hi ∧ W.heap[g]? = some (.cells cur e (0, 0)) ∧ W.cell? ⟨g, k * sz, none⟩ = some u ∧ W.frozen? ⟨g, k * sz, none⟩ = false := by
 obtain ⟨A1, m1, c1, e1, _, _, h⟩ := h
 injection e1 with e1 e2 e3
 subst e1; subst e2; subst e3
 rcases h with rfl | ⟨g, cur, rfl, h1, h2, h3, h4⟩
 · omega
 have hlt : k * sz < cur.size := by
  have : k * sz < m * sz := Nat.mul_lt_mul_of_pos_right hk hs
  omega
 exact ⟨g, cur, cur[k * sz], rfl, h1, h2, h3, (blk_cell h3 _).trans (Array.getElem?_eq_getElem hlt), blk_frozen h3 _⟩
end Go.Proofs.YtkedidjjhhjdbaaGreatDoor.Pr
end
section
set_option linter.unusedVariables false
set_option linter.unusedSimpArgs false
namespace Go.Proofs.YtkedidjjhhjdbaaGreatDoor.Pr
open Go.RowKit Go.Proofs.YtkedidjjhhjdbaaGreatDoorW.PrintWords Go.Proofs.YtkedidjjhhjdbaaGreatDoorW.PrintLast Go.Proofs.YtkedidjjhhjdbaaGreatDoorW.PrintMore
theorem R_len {α : Type} {d : Kd α} {e : Nat} {w : World} {base : Nat} {ok : Nat → Prop} {v : Value} {xs : List α} (h : d.R e w base ok v xs) : xs.length ≤ 9223372036854775807 := by
 obtain ⟨A, c, rfl⟩ := Kd.R_slice h
 exact (Kd.R_reads' h).2.2.2.1
theorem Spl.later {T st o1 o2 lo hi n : Nat} {f1 f2 : Nat → Value} {g : Nat} {W W' : World} (h : Spl T st o1 o2 lo hi n f1 f2 g W) (hg : g < hi) (hb : Below hi W W') : Spl T st o1 o2 lo hi n f1 f2 g W' := by
 have hw : ∀ {e sz : Nat} {v : Value}, Wr e sz lo hi W v → Wr e sz lo hi W' v := by
  rintro e sz v ⟨A, m, c, rfl, hc, hm, h⟩
  refine ⟨A, m, c, rfl, hc, hm, ?_⟩
  rcases h with rfl | ⟨g1, cur, rfl, h1, h2, h3, h4⟩
  · exact .inl rfl
  exact .inr ⟨g1, cur, rfl, h1, h2, (hb.block g1 h2).trans h3, h4⟩
 obtain ⟨⟨cur, hc, hf⟩, h1, h2⟩ := h
 exact ⟨⟨cur, (hb.block g hg).trans hc, hf⟩, fun i hi => hw (h1 i hi), fun i hi => hw (h2 i hi)⟩
end Go.Proofs.YtkedidjjhhjdbaaGreatDoor.Pr
end
section
set_option linter.unusedVariables false
set_option linter.unusedSimpArgs false
namespace Go.Proofs.YtkedidjjhhjdbaaGreatDoor.Pr
open Go.RowKit Go.Proofs.YtkedidjjhhjdbaaGreatDoorW.PrintWords Go.Proofs.YtkedidjjhhjdbaaGreatDoorW.PrintLast Go.Proofs.YtkedidjjhhjdbaaGreatDoorW.PrintMore
def zrc : Rc := ⟨0, ⟨#[]⟩, 0, 0, 0, 0, ⟨#[]⟩, [0, 0, 0, 0, 0, 0, 0, 0, 0, 0, 0, 0, 0, 0, 0, 0], [0, 0, 0, 0, 0, 0, 0, 0], [0, 0, 0, 0, 0, 0, 0, 0]⟩
theorem zrc_ok : zrc.ok := ⟨rfl, rfl, rfl⟩
theorem C_nil62 (W : World) : k62.C W none 0 [] := ⟨rfl, by omega, fun h => absurd h (by omega)⟩
end Go.Proofs.YtkedidjjhhjdbaaGreatDoor.Pr
end
