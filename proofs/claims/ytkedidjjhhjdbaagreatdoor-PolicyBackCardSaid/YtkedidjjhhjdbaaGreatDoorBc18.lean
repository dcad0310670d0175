import Derived.Test.YtkedidjjhhjdbaaGreatDoorBc0
import Derived.Test.YtkedidjjhhjdbaaGreatDoorBc5
import Derived.Test.YtkedidjjhhjdbaaGreatDoorBc11
import Derived.Test.YtkedidjjhhjdbaaGreatDoorBc16
import Derived.Test.YtkedidjjhhjdbaaGreatDoorBc17
namespace Go.Proofs.YtkedidjjhhjdbaaGreatDoor.Pr
open Go.RowKit Go.Proofs.YtkedidjjhhjdbaaGreatDoorW.PrintWords Go.Proofs.YtkedidjjhhjdbaaGreatDoorW.PrintLast Go.Proofs.YtkedidjjhhjdbaaGreatDoorW.PrintMore
attribute [local go_sem] max2_int min2_int max_two min_two max_three min_three max_four min_four strGtr strLeq strGeq
set_option linter.unusedVariables false
set_option linter.unusedSimpArgs false
mutual
def policy_scope.l0 : Nat → List (S33) → ByteArray → Option ((List (S33)) × Bool)
  | 0, _, _ => none
  | k + 1, x4, x5 => if x5.toList = ([125] : List UInt8) then (some (x4, decide ((x4.length : Int) > 0))) else ((strings_IndexAny.f x5 (⟨#[61, 33]⟩ : ByteArray)).bind fun t166 => (if t166 < 1 then (policy_scope.j1 k x4 x5 t166 true) else (if 0 ≤ t166 then (if t166 ≤ (x5.size : Int) then ((policy_word.f (x5.extract 0 (t166 : Int).toNat)).bind fun t167 => (policy_scope.j1 k x4 x5 t166 (!t167))) else (none)) else (none))))
def policy_scope.j1 : Nat → List (S33) → ByteArray → Int → Bool → Option ((List (S33)) × Bool)
  | 0, _, _, _, _ => none
  | k + 1, x4, x5, x6, x27 => if x27 = true then (some (([] : List (S33)), false)) else (if 0 ≤ x6 then (if x6 ≤ (x5.size : Int) then ((some (([(⟨#[]⟩ : ByteArray), (⟨#[61]⟩ : ByteArray), (⟨#[33, 61]⟩ : ByteArray), (⟨#[61, 126]⟩ : ByteArray), (⟨#[33, 126]⟩ : ByteArray)] : List ByteArray) : List ByteArray)).bind fun y169 => (policy_scope.l1 k x4 x5 x6 y169 (y169.length : Int) 0 0 (x5.extract 0 (x6 : Int).toNat) (⟨#[]⟩ : ByteArray))) else (none)) else (none))
def policy_scope.j3 : Nat → List (S33) → ByteArray → Int → ByteArray → ByteArray → Option ((List (S33)) × Bool)
  | 0, _, _, _, _, _ => none
  | k + 1, x4, x5, x169000, x169001, x169002 => if x169000 = 0 then (some (([] : List (S33)), false)) else (policy_scope.l2 k x4 x5 1 x169000 x169001 x169002)
def policy_scope.l2 : Nat → List (S33) → ByteArray → Int → Int → ByteArray → ByteArray → Option ((List (S33)) × Bool)
  | 0, _, _, _, _, _, _ => none
  | k + 1, x4, x5, x10, x169000, x169001, x169002 => if x10 < (x5.size : Int) then (if 0 ≤ x10 then (policy_scope.j5 k x4 x5 x10 ((bt x5 x10) != 34) x169000 x169001 x169002) else (none)) else (policy_scope.j5 k x4 x5 x10 false x169000 x169001 x169002)
def policy_scope.j5 : Nat → List (S33) → ByteArray → Int → Bool → Int → ByteArray → ByteArray → Option ((List (S33)) × Bool)
  | 0, _, _, _, _, _, _, _ => none
  | k + 1, x4, x5, x10, x70, x169000, x169001, x169002 => if x70 = true then (if 0 ≤ x10 then (if x10 < (x5.size : Int) then (if (bt x5 x10) = 92 then (policy_scope.l2 k x4 x5 (wrap64 ((wrap64 (x10 + 1)) + 1)) x169000 x169001 x169002) else (policy_scope.l2 k x4 x5 (wrap64 (x10 + 1)) x169000 x169001 x169002)) else (none)) else (none)) else (if x10 ≥ (x5.size : Int) then (some (([] : List (S33)), false)) else (if 0 ≤ (wrap64 (x10 + 1)) then (if (wrap64 (x10 + 1)) ≤ (x5.size : Int) then ((attr_Unquote.f k (x5.extract 0 ((wrap64 (x10 + 1)) : Int).toNat)).bind fun bt174 => (if bt174.2 = 0 then (if x4.length < 3518437208883 then ((strings_TrimPrefix.f (x5.extract ((wrap64 (x10 + 1)) : Int).toNat x5.size) (⟨#[44, 32]⟩ : ByteArray)).bind fun t179 => (policy_scope.l0 k (x4 ++ [(⟨x169000, x169001, bt174.1⟩ : S33)]) t179)) else (none)) else (some (([] : List (S33)), false)))) else (none)) else (none)))
def policy_scope.l1 : Nat → List (S33) → ByteArray → Int → List ByteArray → Int → Int → Int → ByteArray → ByteArray → Option ((List (S33)) × Bool)
  | 0, _, _, _, _, _, _, _, _, _ => none
  | k + 1, x4, x5, x6, x32, x33, x34, x169000, x169001, x169002 => if x34 < x33 then (if 0 ≤ x34 then (if x34 < (x32.length : Int) then (if (rdOf ByteArray.empty x32 x34).toList = ([] : List UInt8) then (policy_scope.l1 k x4 x5 x6 x32 x33 (wrap64 (x34 + 1)) x169000 x169001 x169002) else (if 0 ≤ x6 then (if x6 ≤ (x5.size : Int) then (if (rdOf ByteArray.empty x32 x34).size + 1 ≤ 9223372036854775807 then ((strings_HasPrefix.f (x5.extract (x6 : Int).toNat x5.size) ((rdOf ByteArray.empty x32 x34) ++ (⟨#[34]⟩ : ByteArray))).bind fun t173 => (if t173 = true then (if 0 ≤ (wrap64 (x6 + ((rdOf ByteArray.empty x32 x34).size : Int))) then (if (wrap64 (x6 + ((rdOf ByteArray.empty x32 x34).size : Int))) ≤ (x5.size : Int) then (policy_scope.j3 k x4 (x5.extract ((wrap64 (x6 + ((rdOf ByteArray.empty x32 x34).size : Int))) : Int).toNat x5.size) x34 x169001 x169002) else (none)) else (none)) else (policy_scope.l1 k x4 x5 x6 x32 x33 (wrap64 (x34 + 1)) x169000 x169001 x169002))) else (none)) else (none)) else (none))) else (none)) else (none)) else (policy_scope.j3 k x4 x5 x169000 x169001 x169002)
end
def policy_scope.f (k : Nat) (a0 : ByteArray) : Option ((List (S33)) × Bool) := (strings_TrimPrefix.f a0 (⟨#[123]⟩ : ByteArray)).bind fun t165 => (policy_scope.l0 k ([] : List (S33)) t165)
set_option maxHeartbeats 8000000 in
set_option maxRecDepth 100000 in
theorem policy_scope.calls (k : Nat) (a0 : ByteArray) (r1 : List (S33)) (r2 : Bool) (w : World) (h : policy_scope.f k a0 = some (r1, r2)) :
  Calls Tryz.prog 80 #[.string a0] w fun e w' => ∃ v0_ : Value, e = .returned (.tuple #[v0_, .bool r2]) ∧ Kd.R k33 33 w' w.heap.size (fun _ => True) v0_ r1 ∧ Below w.heap.size w w' := by
 have hu33 := Tryz.underlying33; have HB := Aside0.mk (Below.refl w.heap.size w)
 have H : ((strings_TrimPrefix.f a0 (⟨#[123]⟩ : ByteArray)).bind fun t165 => (policy_scope.l0 k ([] : List (S33)) t165)) = some (r1, r2) := h
 clear h
 replace H := Option.bind_eq_some_iff.mp H
 obtain ⟨t165, A20, H⟩ := H
 replace H : (policy_scope.l0 k ([] : List (S33)) t165) = some (r1, r2) := H
 have A2 := Aside0.mk A20; clear A20; have H' := Aside0.mk H; clear H
 go_enter Tryz.func80, Tryz.ntmps80
 go_wp2_with (first | ((with_reducible refine gate_callee (f := 79) rfl ?_); refine goesL_ (some 14) rfl rfl Tryz.func79 (by kernel_rfl) rfl #[.string a0, .string (⟨#[123]⟩ : ByteArray)] rfl lR ?_; (with_reducible refine (strings_TrimPrefix.calls a0 (⟨#[123]⟩ : ByteArray) t165 _ A2.out).mono ?_); rintro e w' ⟨rfl, ⟨nd, rfl⟩⟩; refine ⟨_, rfl, ?_⟩))
 go_loopg [4, 5] k (fun kq v4 v5 w' => ∃ (x4_1 : List (S33)) (x5_1 : ByteArray), v5 = .string x5_1 ∧ Aside0 (policy_scope.l0 kq x4_1 x5_1 = some (r1, r2)) ∧ Aside0 (kq ≤ k) ∧ Aside0 (Kd.R k33 33 w' w.heap.size (fun _ => True) v4 x4_1) ∧ Aside0 (Below w.heap.size w w'))
 case atStart => exact ⟨(([] : List (S33))), (t165), sR, H', ⟨Nat.le_refl _⟩, ⟨by first | exact Kd.R_nil _ _ _ _ _ | exact Kd.N_nil _ _ _ _ _ | exact Kd.V_nil _ _ _ _ _ | exact Kd.Q_nil _ _ _ _ _ | exact Kd.S_nil _ _ _ _ _⟩, ⟨bO⟩⟩
 case round =>
  clear H'; (try clear p2)
  obtain ⟨x4_1, x5_1, rfl, HA, HK1, HO_4, HB⟩ := hrel
  cases gk with
  | zero => exact absurd HA.out (by simp [policy_scope.l0])
  | succ k1 =>
   have H := HA.out; clear HA
   simp only [policy_scope.l0] at H
   by_cases c3 : x5_1.toList = ([125] : List UInt8)
   ·
    rw [if_pos c3] at H
    have c3b0 : (x5_1.toList == ([125] : List UInt8)) = true := beq_iff_eq.mpr c3
    have c3b1 : (x5_1.toList != ([125] : List UInt8)) = false := bne_eq_false_iff_eq.mpr c3
    clear c3
    simp only [Option.some.injEq, Prod.mk.injEq] at H
    obtain ⟨rfl, rfl⟩ := H
    obtain ⟨Ao4, co4, eo4⟩ := Kd.R_slice HO_4.out
    subst eo4; go_wp2; go_ret2
    exact ⟨_, eR, by (with_reducible repeat (first | apply Kd.R_alloc | apply Kd.R_drewN | apply Kd.R_drew)); exact HO_4.out, bO⟩
   rw [if_neg c3] at H
   have c3b0 : (x5_1.toList == ([125] : List UInt8)) = false := beq_eq_false_iff_ne.mpr c3
   have c3b1 : (x5_1.toList != ([125] : List UInt8)) = true := bne_iff_ne.mpr c3
   replace H := Option.bind_eq_some_iff.mp H
   obtain ⟨t166, A50, H⟩ := H
   replace H : (if t166 < 1 then (policy_scope.j1 k1 x4_1 x5_1 t166 true) else (if 0 ≤ t166 then (if t166 ≤ (x5_1.size : Int) then ((policy_word.f (x5_1.extract 0 (t166 : Int).toNat)).bind fun t167 => (policy_scope.j1 k1 x4_1 x5_1 t166 (!t167))) else (none)) else (none))) = some (r1, r2) := H
   have A5 := Aside0.mk A50; clear A50; have HC6 := Aside0.mk H; clear H
   go_upto_region 5 with (first | ((with_reducible refine gate_callee (f := 107) rfl ?_); refine goesL_ (some 18) rfl rfl Tryz.func107 (by kernel_rfl) rfl #[.string x5_1, .string (⟨#[61, 33]⟩ : ByteArray)] rfl lR ?_; (with_reducible refine (strings_IndexAny.calls x5_1 (⟨#[61, 33]⟩ : ByteArray) t166 _ A5.out).mono ?_); rintro e w7 ⟨rfl, hb⟩; refine ⟨_, rfl, ?_⟩; have n0_ := Aside0.mk (Kd.R_below (by (with_reducible repeat (first | apply Kd.R_alloc | apply Kd.R_drewN | apply Kd.R_drew)); exact HO_4.out) hb); have n1_ := Aside0.mk (below_step bO hb); clear HO_4; clear HB; have HO_4 := n0_; have HB := n1_; clear n0_ n1_; (try clear hb); (try clear hb2); (try clear hk); (try clear hi)))
   (try simp only [Act.put, List.setIfInBounds_toArray, List.set_cons_zero, List.set_cons_succ])
   go_cut [27] (fun v27 wc => ∃ (kq : Nat) (x27_5 : Bool), v27 = .bool x27_5 ∧ Aside0 (policy_scope.j1 kq x4_1 x5_1 t166 x27_5 = some (r1, r2)) ∧ Aside0 (kq ≤ k1) ∧ Aside0 (Kd.R k33 33 wc w.heap.size (fun _ => True) u4 x4_1) ∧ Aside0 (Below w.heap.size w wc))
   case first =>
    have H := HC6.out; clear HC6; by_cases c8 : t166 < 1
    ·
     rw [if_pos c8] at H
     have c8b0 : decide (t166 < 1) = true := decide_eq_true c8
     clear c8
     (first | rw [c8b0] | (simp only [i64_w, i32_w]; rw [c8b0]) | skip)
     have H' := Aside0.mk H; clear H; go_wp2
     go_meet
     case rel => exact ⟨_, (true), sR, H', ⟨by have := HK1.out; first | omega | exact Nat.le_refl _⟩, ⟨by (with_reducible repeat (first | apply Kd.R_alloc | apply Kd.R_drewN | apply Kd.R_drew)); exact HO_4.out⟩, ⟨bO⟩⟩
    rw [if_neg c8] at H
    have c8b0 : decide (t166 < 1) = false := decide_eq_false c8
    clear c8
    (first | rw [c8b0] | (simp only [i64_w, i32_w]; rw [c8b0]) | skip)
    by_cases c9 : 0 ≤ t166; rotate_left
    · rw [if_neg c9] at H; exact absurd H (by simp)
    rw [if_pos c9] at H; have c9b0 := eq_true c9
    have c9b1 : decide (0 ≤ t166) = true := decide_eq_true c9
    clear c9; by_cases c10 : t166 ≤ (x5_1.size : Int); rotate_left
    · rw [if_neg c10] at H; exact absurd H (by simp)
    rw [if_pos c10] at H; have c10b0 := eq_true c10
    have c10b1 : decide (t166 ≤ (x5_1.size : Int)) = true := decide_eq_true c10
    clear c10
    replace H := Option.bind_eq_some_iff.mp H
    obtain ⟨t167, A110, H⟩ := H
    replace H : (policy_scope.j1 k1 x4_1 x5_1 t166 (!t167)) = some (r1, r2) := H
    have A11 := Aside0.mk A110; clear A110; have H' := Aside0.mk H; clear H
    go_wp2_with (first | (go_at_call 81; (with_reducible refine (policy_word.calls (x5_1.extract 0 (t166 : Int).toNat) t167 _ A11.out).mono ?_); rintro e w12 ⟨rfl, hb⟩; have n0_ := Aside0.mk (Kd.R_below (by (with_reducible repeat (first | apply Kd.R_alloc | apply Kd.R_drewN | apply Kd.R_drew)); exact HO_4.out) hb); have n1_ := Aside0.mk (below_step bO hb); clear HO_4; clear HB; have HO_4 := n0_; have HB := n1_; clear n0_ n1_; (try clear hb); (try clear hb2); (try clear hk); (try clear hi)))
    go_meet
    case rel => exact ⟨_, (!t167), sR, H', ⟨by have := HK1.out; first | omega | exact Nat.le_refl _⟩, ⟨by (with_reducible repeat (first | apply Kd.R_alloc | apply Kd.R_drewN | apply Kd.R_drew)); exact HO_4.out⟩, ⟨bO⟩⟩
   case rest =>
    clear HC6; (try clear c1); (try clear p2); (try clear c3); (try clear c3b0); (try clear c3b1); (try clear c7); (try clear c8); (try clear c8b0); (try clear c9); (try clear c9b0); (try clear c9b1); (try clear c10); (try clear c10b0); (try clear c10b1); (try clear p2)
    obtain ⟨kq, x27_5, rfl, HA, HJ5, HO_4, HB⟩ := hcut
    cases kq with
    | zero => exact absurd HA.out (by simp [policy_scope.j1])
    | succ kj5 =>
     have H := HA.out; clear HA
     simp only [policy_scope.j1] at H
     by_cases c13 : x27_5 = true
     ·
      subst c13
      have H1 : (some (([] : List (S33)), false)) = some (r1, r2) := by rw [if_pos rfl] at H; exact H
      clear H; have H := H1; clear H1
      simp only [Option.some.injEq, Prod.mk.injEq] at H
      obtain ⟨rfl, rfl⟩ := H
      go_wp2; go_ret2
      exact ⟨_, eR, by first | exact Kd.R_nil _ _ _ _ _ | exact Kd.N_nil _ _ _ _ _ | exact Kd.V_nil _ _ _ _ _ | exact Kd.Q_nil _ _ _ _ _ | exact Kd.S_nil _ _ _ _ _, bO⟩
     replace c13 := Bool.eq_false_iff.mpr c13
     subst c13
     have H1 : (if 0 ≤ t166 then (if t166 ≤ (x5_1.size : Int) then ((some (([(⟨#[]⟩ : ByteArray), (⟨#[61]⟩ : ByteArray), (⟨#[33, 61]⟩ : ByteArray), (⟨#[61, 126]⟩ : ByteArray), (⟨#[33, 126]⟩ : ByteArray)] : List ByteArray) : List ByteArray)).bind fun y169 => (policy_scope.l1 kj5 x4_1 x5_1 t166 y169 (y169.length : Int) 0 0 (x5_1.extract 0 (t166 : Int).toNat) (⟨#[]⟩ : ByteArray))) else (none)) else (none)) = some (r1, r2) := by rw [if_neg (show ¬ (false = true) by decide)] at H; exact H
     clear H; have H := H1; clear H1; by_cases c14 : 0 ≤ t166; rotate_left
     · rw [if_neg c14] at H; exact absurd H (by simp)
     rw [if_pos c14] at H; have c14b0 := eq_true c14
     have c14b1 : decide (0 ≤ t166) = true := decide_eq_true c14
     clear c14; by_cases c15 : t166 ≤ (x5_1.size : Int); rotate_left
     · rw [if_neg c15] at H; exact absurd H (by simp)
     rw [if_pos c15] at H; have c15b0 := eq_true c15
     have c15b1 : decide (t166 ≤ (x5_1.size : Int)) = true := decide_eq_true c15
     clear c15
     obtain ⟨y169, hy169⟩ : ∃ y_ : List ByteArray, y_ = (([(⟨#[]⟩ : ByteArray), (⟨#[61]⟩ : ByteArray), (⟨#[33, 61]⟩ : ByteArray), (⟨#[61, 126]⟩ : ByteArray), (⟨#[33, 126]⟩ : ByteArray)] : List ByteArray)) := ⟨_, rfl⟩
     replace H : (policy_scope.l1 kj5 x4_1 x5_1 t166 y169 (y169.length : Int) 0 0 (x5_1.extract 0 (t166 : Int).toNat) (⟨#[]⟩ : ByteArray)) = some (r1, r2) := by first | (rw [hy169]; with_reducible exact H) | (have H2_ := (Option.bind_some _ _).symm.trans H; rw [hy169]; with_reducible exact H2_) | (have H2_ := (Option.bind_some _ _).symm.trans H; with_reducible exact H2_) | with_reducible exact H | (rw [hy169]; exact H) | exact H
     have Ny169 := Aside0.mk hy169; clear hy169; have HC16 := Aside0.mk H; clear H
     go_upto_block 2 with (first | ((with_reducible refine gate_dst (N := 7) rfl ?_); refine box_event ?hg (N := 7) ?hd (cs := #[.int .i64 0, .string (⟨#[]⟩ : ByteArray), .string (⟨#[]⟩ : ByteArray)]) (t := 33) ?hr ?_; (case hd => rfl); (case hg => rfl); (case hr => first | (go_simp; done) | (go_simp; rfl)); intro gb168 hg w17 hbox hb; have n0_ := Aside0.mk (Kd.R_below (Kd.R_elderB (by (with_reducible repeat (first | apply Kd.R_alloc | apply Kd.R_drewN | apply Kd.R_drew)); exact HO_4.out) gb168 (Nat.le_of_eq hg.symm)) hb); have n1_ := Aside0.mk (below_step bO hb); have n2_ := Aside0.mk (hbox); have n3_ := Aside0.mk ((by rw [hg]; exact (below_size bO) : w.heap.size ≤ gb168)); have n4_ := Aside0.mk ((by rw [hg]; exact (below_size bO) : w.heap.size ≤ gb168)); clear HO_4; clear HB; have HO_4 := n0_; have HB := n1_; have BK168 := n2_; have GW168 := n3_; have GE168 := n4_; clear n0_ n1_ n2_ n3_ n4_; clear hb hbox hg; have hcz18_0 : w17.cell? ⟨gb168, 0, none⟩ = some (.int .i64 0) := (blk_cell BK168.out 0).trans rfl; have hcz18_1 : w17.cell? ⟨gb168, 1, none⟩ = some (.string (⟨#[]⟩ : ByteArray)) := (blk_cell BK168.out 1).trans rfl; have hcz18_2 : w17.cell? ⟨gb168, 2, none⟩ = some (.string (⟨#[]⟩ : ByteArray)) := (blk_cell BK168.out 2).trans rfl; have hfz18_0 := blk_frozen BK168.out 0; have hfz18_1 := blk_frozen BK168.out 1; have hfz18_2 := blk_frozen BK168.out 2) | ((with_reducible refine gate_dst (N := 32) rfl ?_); refine Kd.R_lit Kd.string _ 9 ?hg (N := 32) ?hd (xs := ([(⟨#[]⟩ : ByteArray), (⟨#[61]⟩ : ByteArray), (⟨#[33, 61]⟩ : ByteArray), (⟨#[61, 126]⟩ : ByteArray), (⟨#[33, 126]⟩ : ByteArray)] : List ByteArray)) (inner := [.string (⟨#[]⟩ : ByteArray), .string (⟨#[61]⟩ : ByteArray), .string (⟨#[33, 61]⟩ : ByteArray), .string (⟨#[61, 126]⟩ : ByteArray), .string (⟨#[33, 126]⟩ : ByteArray)]) (ok := fun _ => True) (okp := fun _ => True) ?hr ?hp (fun _ hk => hk) trivial (Below.refl _ _) (Nat.le_refl _) (by simp) ?_; (case hd => rfl); (case hg => rfl); (case hr => first | (go_simp; done) | (go_simp; rfl)); (case hp => exact (Reps.one (show Kd.M Kd.string _ _ _ (⟨#[]⟩ : ByteArray) [.string (⟨#[]⟩ : ByteArray)] from rfl) (Reps.one (show Kd.M Kd.string _ _ _ (⟨#[61]⟩ : ByteArray) [.string (⟨#[61]⟩ : ByteArray)] from rfl) (Reps.one (show Kd.M Kd.string _ _ _ (⟨#[33, 61]⟩ : ByteArray) [.string (⟨#[33, 61]⟩ : ByteArray)] from rfl) (Reps.one (show Kd.M Kd.string _ _ _ (⟨#[61, 126]⟩ : ByteArray) [.string (⟨#[61, 126]⟩ : ByteArray)] from rfl) (Reps.one (show Kd.M Kd.string _ _ _ (⟨#[33, 126]⟩ : ByteArray) [.string (⟨#[33, 126]⟩ : ByteArray)] from rfl) (Reps.none _ _))))))); intro v170 w19 ho20 hb hg_ hnew_; clear hg_ hnew_; (first | rw [← Ny169.out] at ho20 | (simp only [Int.reduceToNat] at ho20; rw [← Ny169.out] at ho20)); have n0_ := Aside0.mk (Kd.R_below (by (with_reducible repeat (first | apply Kd.R_alloc | apply Kd.R_drewN | apply Kd.R_drew)); exact (Kd.R_mono (Kd.R_far (p := ⟨gb168, 2, none⟩) (Kd.R_far (p := ⟨gb168, 1, none⟩) (Kd.R_far (p := ⟨gb168, 0, none⟩) (Kd.R_mono HO_4.out (fun k_ hk => (⟨hk, hk.2⟩ : _ ∧ k_ ≠ gb168))) (fun _ hk => hk.2) (.int .i64 0)) (fun _ hk => hk.2) (.string (x5_1.extract 0 (t166 : Int).toNat))) (fun _ hk => hk.2) (.string (⟨#[]⟩ : ByteArray))) (fun _ h_ => h_.1))) hb); have n1_ := Aside0.mk (Kd.R_lower ho20 (below_size bO)); have n2_ := Aside0.mk (blk_below (g := gb168) (o := .cells #[.int .i64 0, .string (x5_1.extract 0 (t166 : Int).toNat), .string (⟨#[]⟩ : ByteArray)] 33 (0, 0)) (by (with_reducible repeat (first | refine blk_drewN ?_ _ | refine blk_drew ?_ | refine blk_alloc ?_ _)); refine blk_put (cs := #[.int .i64 0, .string (x5_1.extract 0 (t166 : Int).toNat), .string (⟨#[]⟩ : ByteArray)]) ?_ 2 _ rfl; (with_reducible repeat (first | refine blk_drewN ?_ _ | refine blk_drew ?_ | refine blk_alloc ?_ _)); refine blk_put (cs := #[.int .i64 0, .string (⟨#[]⟩ : ByteArray), .string (⟨#[]⟩ : ByteArray)]) ?_ 1 _ rfl; (with_reducible repeat (first | refine blk_drewN ?_ _ | refine blk_drew ?_ | refine blk_alloc ?_ _)); refine blk_put (cs := #[.int .i64 0, .string (⟨#[]⟩ : ByteArray), .string (⟨#[]⟩ : ByteArray)]) ?_ 0 _ rfl; (with_reducible repeat (first | refine blk_drewN ?_ _ | refine blk_drew ?_ | refine blk_alloc ?_ _)); exact BK168.out) hb); have n3_ := Aside0.mk (below_step bO hb); clear HO_4; clear BK168; clear HB; have HO_4 := n0_; have HO171 := n1_; have BK168 := n2_; have HB := n3_; clear n0_ n1_ n2_ n3_; clear hb ho20; obtain ⟨Ao21, co21, eo21⟩ := Kd.R_slice HO171.out; subst eo21))
     (try simp only [Act.put, List.setIfInBounds_toArray, List.set_cons_zero, List.set_cons_succ])
     go_cut [5] (fun v5 wc => ∃ (kq : Nat) (x5_15 : ByteArray) (x169000_15 : Int), v5 = .string x5_15 ∧ Aside0 (policy_scope.j3 kq x4_1 x5_15 x169000_15 (x5_1.extract 0 (t166 : Int).toNat) (⟨#[]⟩ : ByteArray) = some (r1, r2)) ∧ Aside0 (kq ≤ kj5) ∧ Aside0 (Kd.R k33 33 wc w.heap.size (fun k_ => k_ ≠ gb168) u4 x4_1) ∧ Aside0 (wc.heap[gb168]? = some (.cells #[.int .i64 x169000_15, .string (x5_1.extract 0 (t166 : Int).toNat), .string (⟨#[]⟩ : ByteArray)] 33 (0, 0))) ∧ Aside0 (Below w.heap.size w wc))
     case first =>
      have H := HC16.out; clear HC16; have H' := Aside0.mk H; clear H; go_wp2
      go_loopg [5, 34] kj5 (fun kq v5 v34 w' => ∃ (x5_3 : ByteArray) (x34_3 : Int) (x169000_3 : Int), v5 = .string x5_3 ∧ v34 = .int .i64 x34_3 ∧ Aside0 (policy_scope.l1 kq x4_1 x5_3 t166 y169 (y169.length : Int) x34_3 x169000_3 (x5_1.extract 0 (t166 : Int).toNat) (⟨#[]⟩ : ByteArray) = some (r1, r2)) ∧ Aside0 (kq ≤ kj5) ∧ Aside0 (Kd.R k33 33 w' w.heap.size (fun k_ => k_ ≠ gb168) u4 x4_1) ∧ Aside0 (Kd.R Kd.string 9 w' w.heap.size (fun _ => True) (.slice Ao21 y169.length co21) y169) ∧ Aside0 (w'.heap[gb168]? = some (.cells #[.int .i64 x169000_3, .string (x5_1.extract 0 (t166 : Int).toNat), .string (⟨#[]⟩ : ByteArray)] 33 (0, 0))) ∧ Aside0 (Below w.heap.size w w'))
      case atStart => exact ⟨(x5_1), (0), (0), sR, sR, H', ⟨Nat.le_refl _⟩, ⟨by (with_reducible repeat (first | apply Kd.R_alloc | apply Kd.R_drewN | apply Kd.R_drew)); exact Kd.R_mono HO_4.out (fun _ hk => hk.2)⟩, ⟨by (with_reducible repeat (first | apply Kd.R_alloc | apply Kd.R_drewN | apply Kd.R_drew)); exact HO171.out⟩, ⟨by (with_reducible repeat (first | refine blk_drewN ?_ _ | refine blk_drew ?_ | refine blk_alloc ?_ _)); exact BK168.out⟩, ⟨bO⟩⟩
      case round =>
       clear H'; (try clear c1); (try clear p2); (try clear c3); (try clear c3b0); (try clear c3b1); (try clear c7); (try clear c8); (try clear c8b0); (try clear c9); (try clear c9b0); (try clear c9b1); (try clear c10); (try clear c10b0); (try clear c10b1); (try clear c13); (try clear c14); (try clear c14b0); (try clear c14b1); (try clear c15); (try clear c15b0); (try clear c15b1); (try clear hcz18_0); (try clear hcz18_1); (try clear hcz18_2); (try clear hfz18_0); (try clear hfz18_1); (try clear hfz18_2); (try clear p2)
       obtain ⟨x5_3, x34_3, x169000_3, rfl, rfl, HA, HK3, HO_4, HO_32, BK168, HB⟩ := hrel
       cases gk with
       | zero => exact absurd HA.out (by simp [policy_scope.l1])
       | succ k3 =>
        have H := HA.out; clear HA
        simp only [policy_scope.l1] at H
        by_cases c22 : x34_3 < (y169.length : Int); rotate_left
        ·
         rw [if_neg c22] at H
         have c22b0 : decide (x34_3 < (y169.length : Int)) = false := decide_eq_false c22
         clear c22
         (first | rw [c22b0] | (simp only [i64_w, i32_w]; rw [c22b0]) | skip)
         have H' := Aside0.mk H; clear H; go_wp2
         go_meet
         case rel => exact ⟨_, (x5_3), (x169000_3), sR, H', ⟨by have := HK1.out; have := HJ5.out; have := HK3.out; first | omega | exact Nat.le_refl _⟩, ⟨by (with_reducible repeat (first | apply Kd.R_alloc | apply Kd.R_drewN | apply Kd.R_drew)); exact HO_4.out⟩, ⟨by (with_reducible repeat (first | refine blk_drewN ?_ _ | refine blk_drew ?_ | refine blk_alloc ?_ _)); exact BK168.out⟩, ⟨bO⟩⟩
        rw [if_pos c22] at H
        have c22b0 : decide (x34_3 < (y169.length : Int)) = true := decide_eq_true c22
        clear c22
        (first | rw [c22b0] | (simp only [i64_w, i32_w]; rw [c22b0]) | skip)
        by_cases c23 : 0 ≤ x34_3; rotate_left
        · rw [if_neg c23] at H; exact absurd H (by simp)
        rw [if_pos c23] at H
        have c23b0 : decide (0 ≤ x34_3) = true := decide_eq_true c23
        clear c23; by_cases c24 : x34_3 < (y169.length : Int); rotate_left
        · rw [if_neg c24] at H; exact absurd H (by simp)
        rw [if_pos c24] at H
        have c24b0 : decide (x34_3 < (y169.length : Int)) = true := decide_eq_true c24
        clear c24; by_cases c25 : (rdOf ByteArray.empty y169 x34_3).toList = ([] : List UInt8)
        ·
         rw [if_pos c25] at H
         have c25b0 : ((rdOf ByteArray.empty y169 x34_3).toList == ([] : List UInt8)) = true := beq_iff_eq.mpr c25
         have c25b1 : ((rdOf ByteArray.empty y169 x34_3).toList != ([] : List UInt8)) = false := bne_eq_false_iff_eq.mpr c25
         clear c25; have H' := Aside0.mk H; clear H
         have p172 : 0 ≤ (x34_3 : Int) := of_decide_eq_true asm
         have q172 : x34_3 < (y169.length : Int) := of_decide_eq_true asm
         obtain ⟨ad172, e172, hx172_0⟩ := Kd.at_string (Kd.R_reads' HO_32.out).2.2 x34_3 p172 q172
         cases e172; replace p172 := eq_true p172; replace q172 := eq_true q172; go_wp2
         go_roundg k3
         case measure => have := HK1.out; have := HJ5.out; have := HK3.out; omega
         case rel => exact ⟨(x5_3), (wrap64 (x34_3 + 1)), (x169000_3), sR, sR, H', ⟨by have := HK1.out; have := HJ5.out; have := HK3.out; omega⟩, ⟨by (with_reducible repeat (first | apply Kd.R_alloc | apply Kd.R_drewN | apply Kd.R_drew)); exact HO_4.out⟩, ⟨by (with_reducible repeat (first | apply Kd.R_alloc | apply Kd.R_drewN | apply Kd.R_drew)); exact HO_32.out⟩, ⟨by (with_reducible repeat (first | refine blk_drewN ?_ _ | refine blk_drew ?_ | refine blk_alloc ?_ _)); exact BK168.out⟩, ⟨bO⟩⟩
        rw [if_neg c25] at H
        have c25b0 : ((rdOf ByteArray.empty y169 x34_3).toList == ([] : List UInt8)) = false := beq_eq_false_iff_ne.mpr c25
        have c25b1 : ((rdOf ByteArray.empty y169 x34_3).toList != ([] : List UInt8)) = true := bne_iff_ne.mpr c25
        by_cases c26 : 0 ≤ t166; rotate_left
        · rw [if_neg c26] at H; exact absurd H (by simp)
        rw [if_pos c26] at H; have c26b0 := eq_true c26
        have c26b1 : decide (0 ≤ t166) = true := decide_eq_true c26
        clear c26; by_cases c27 : t166 ≤ (x5_3.size : Int); rotate_left
        · rw [if_neg c27] at H; exact absurd H (by simp)
        rw [if_pos c27] at H; have c27b0 := eq_true c27
        have c27b1 : decide (t166 ≤ (x5_3.size : Int)) = true := decide_eq_true c27
        clear c27; by_cases c28 : (rdOf ByteArray.empty y169 x34_3).size + 1 ≤ 9223372036854775807; rotate_left
        · rw [if_neg c28] at H; exact absurd H (by simp)
        rw [if_pos c28] at H; have c28b0 := eq_true c28
        have c28b1 : decide ((rdOf ByteArray.empty y169 x34_3).size + 1 ≤ 9223372036854775807) = true := decide_eq_true c28
        try have c28b2 : (9223372036854775807 < (rdOf ByteArray.empty y169 x34_3).size + 1) = False := eq_false (Nat.not_lt.2 c28)
        replace H := Option.bind_eq_some_iff.mp H
        obtain ⟨t173, A290, H⟩ := H
        replace H : (if t173 = true then (if 0 ≤ (wrap64 (t166 + ((rdOf ByteArray.empty y169 x34_3).size : Int))) then (if (wrap64 (t166 + ((rdOf ByteArray.empty y169 x34_3).size : Int))) ≤ (x5_3.size : Int) then (policy_scope.j3 k3 x4_1 (x5_3.extract ((wrap64 (t166 + ((rdOf ByteArray.empty y169 x34_3).size : Int))) : Int).toNat x5_3.size) x34_3 (x5_1.extract 0 (t166 : Int).toNat) (⟨#[]⟩ : ByteArray)) else (none)) else (none)) else (policy_scope.l1 k3 x4_1 x5_3 t166 y169 (y169.length : Int) (wrap64 (x34_3 + 1)) x169000_3 (x5_1.extract 0 (t166 : Int).toNat) (⟨#[]⟩ : ByteArray))) = some (r1, r2) := H
        have A29 := Aside0.mk A290; clear A290; by_cases c30 : t173 = true; rotate_left
        ·
         replace c30 := Bool.eq_false_iff.mpr c30
         subst c30
         have H1 : (policy_scope.l1 k3 x4_1 x5_3 t166 y169 (y169.length : Int) (wrap64 (x34_3 + 1)) x169000_3 (x5_1.extract 0 (t166 : Int).toNat) (⟨#[]⟩ : ByteArray)) = some (r1, r2) := by rw [if_neg (show ¬ (false = true) by decide)] at H; exact H
         clear H; have H := H1; clear H1; have H' := Aside0.mk H; clear H
         have p172 : 0 ≤ (x34_3 : Int) := of_decide_eq_true asm
         have q172 : x34_3 < (y169.length : Int) := of_decide_eq_true asm
         obtain ⟨ad172, e172, hx172_0⟩ := Kd.at_string (Kd.R_reads' HO_32.out).2.2 x34_3 p172 q172
         cases e172; replace p172 := eq_true p172; replace q172 := eq_true q172
         go_wp2_with (first | (go_at_call 108; (with_reducible refine (strings_HasPrefix.calls (x5_3.extract (t166 : Int).toNat x5_3.size) ((rdOf ByteArray.empty y169 x34_3) ++ (⟨#[34]⟩ : ByteArray)) false _ A29.out).mono ?_); rintro e w' ⟨rfl, ⟨nd, rfl⟩⟩))
         go_roundg k3
         case measure => have := HK1.out; have := HJ5.out; have := HK3.out; omega
         case rel => exact ⟨(x5_3), (wrap64 (x34_3 + 1)), (x169000_3), sR, sR, H', ⟨by have := HK1.out; have := HJ5.out; have := HK3.out; omega⟩, ⟨by (with_reducible repeat (first | apply Kd.R_alloc | apply Kd.R_drewN | apply Kd.R_drew)); exact HO_4.out⟩, ⟨by (with_reducible repeat (first | apply Kd.R_alloc | apply Kd.R_drewN | apply Kd.R_drew)); exact HO_32.out⟩, ⟨by (with_reducible repeat (first | refine blk_drewN ?_ _ | refine blk_drew ?_ | refine blk_alloc ?_ _)); exact BK168.out⟩, ⟨bO⟩⟩
        subst c30
        have H1 : (if 0 ≤ (wrap64 (t166 + ((rdOf ByteArray.empty y169 x34_3).size : Int))) then (if (wrap64 (t166 + ((rdOf ByteArray.empty y169 x34_3).size : Int))) ≤ (x5_3.size : Int) then (policy_scope.j3 k3 x4_1 (x5_3.extract ((wrap64 (t166 + ((rdOf ByteArray.empty y169 x34_3).size : Int))) : Int).toNat x5_3.size) x34_3 (x5_1.extract 0 (t166 : Int).toNat) (⟨#[]⟩ : ByteArray)) else (none)) else (none)) = some (r1, r2) := by rw [if_pos rfl] at H; exact H
        clear H; have H := H1; clear H1
        obtain ⟨ji31, hji31⟩ : ∃ j_ : Int, (wrap64 (t166 + ((rdOf ByteArray.empty y169 x34_3).size : Int))) = j_ := ⟨_, rfl⟩
        replace H : (if 0 ≤ (ji31) then (if (ji31) ≤ (x5_3.size : Int) then (policy_scope.j3 k3 x4_1 (x5_3.extract ((ji31) : Int).toNat x5_3.size) x34_3 (x5_1.extract 0 (t166 : Int).toNat) (⟨#[]⟩ : ByteArray)) else (none)) else (none)) = some (r1, r2) := by first | (rw [hji31] at H; exact H) | (simp only [hji31] at H ⊢; exact H)
        (try rw [hji31] at A29)
        have hji31w : (IntKind.i64.wrap (t166 + ((rdOf ByteArray.empty y169 x34_3).size : Int))) = ji31 := (i64_w _).trans hji31
        by_cases c32 : 0 ≤ (ji31); rotate_left
        · rw [if_neg c32] at H; exact absurd H (by simp)
        rw [if_pos c32] at H; have c32b0 := eq_true c32
        have c32b1 : decide (0 ≤ (ji31)) = true := decide_eq_true c32
        clear c32; by_cases c33 : (ji31) ≤ (x5_3.size : Int); rotate_left
        · rw [if_neg c33] at H; exact absurd H (by simp)
        rw [if_pos c33] at H; have c33b0 := eq_true c33
        have c33b1 : decide ((ji31) ≤ (x5_3.size : Int)) = true := decide_eq_true c33
        clear c33; have H' := Aside0.mk H; clear H
        have p172 : 0 ≤ (x34_3 : Int) := of_decide_eq_true asm
        have q172 : x34_3 < (y169.length : Int) := of_decide_eq_true asm
        obtain ⟨ad172, e172, hx172_0⟩ := Kd.at_string (Kd.R_reads' HO_32.out).2.2 x34_3 p172 q172
        cases e172; replace p172 := eq_true p172; replace q172 := eq_true q172
        go_wp2_with (first | (go_at_call 108; (with_reducible refine (strings_HasPrefix.calls (x5_3.extract (t166 : Int).toNat x5_3.size) ((rdOf ByteArray.empty y169 x34_3) ++ (⟨#[34]⟩ : ByteArray)) true _ A29.out).mono ?_); rintro e w' ⟨rfl, ⟨nd, rfl⟩⟩; (try (rw [drewN_self wr]; generalize hq_ : World.drewN wr _ = wr; have n0_ : Aside0 (Kd.R Kd.string 9 wr w.heap.size (fun _ => True) (.slice (some ad172) y169.length co21) y169) := ⟨by rw [← hq_]; exact (by (with_reducible repeat (first | apply Kd.R_alloc | apply Kd.R_drewN | apply Kd.R_drew)); exact HO_32.out)⟩; have n1_ : Aside0 (Kd.R k33 33 wr w.heap.size (fun k_ => k_ ≠ gb168) u4 x4_1) := ⟨by rw [← hq_]; exact (by (with_reducible repeat (first | apply Kd.R_alloc | apply Kd.R_drewN | apply Kd.R_drew)); exact HO_4.out)⟩; have n2_ : Aside0 (wr.heap[gb168]? = some (.cells #[.int .i64 x169000_3, .string (x5_1.extract 0 (t166 : Int).toNat), .string (⟨#[]⟩ : ByteArray)] 33 (0, 0))) := ⟨by rw [← hq_]; exact bK⟩; have n3_ : Aside0 (Below w.heap.size w wr) := ⟨by rw [← hq_]; exact bO⟩; clear HO_32 HO_4 BK168 HB hq_; have HO_32 := n0_; have HO_4 := n1_; have BK168 := n2_; have HB := n3_; clear n0_ n1_ n2_ n3_)); have hcz34_0 : wr.cell? ⟨gb168, 0, none⟩ = some (.int .i64 x169000_3) := (blk_cell BK168.out 0).trans rfl; have hcz34_1 : wr.cell? ⟨gb168, 1, none⟩ = some (.string (x5_1.extract 0 (t166 : Int).toNat)) := (blk_cell BK168.out 1).trans rfl; have hcz34_2 : wr.cell? ⟨gb168, 2, none⟩ = some (.string (⟨#[]⟩ : ByteArray)) := (blk_cell BK168.out 2).trans rfl; have hfz34_0 := blk_frozen BK168.out 0; have hfz34_1 := blk_frozen BK168.out 1; have hfz34_2 := blk_frozen BK168.out 2))
        go_meet
        case rel => exact ⟨_, (x5_3.extract ((ji31) : Int).toNat x5_3.size), (x34_3), (by first | rfl | (simp; done) | (simp only [← hji31] <;> (first | rfl | simp)) | (simp [*]; done)), H', ⟨by have := HK1.out; have := HJ5.out; have := HK3.out; first | omega | exact Nat.le_refl _⟩, ⟨by (with_reducible repeat (first | apply Kd.R_alloc | apply Kd.R_drewN | apply Kd.R_drew)); exact Kd.R_mono (Kd.R_far (p := ⟨gb168, 0, none⟩) (Kd.R_mono HO_4.out (fun k_ hk => (⟨hk, hk⟩ : _ ∧ k_ ≠ gb168))) (fun _ hk => hk.2) (.int .i64 x34_3)) (fun _ hk => hk.1)⟩, ⟨by (with_reducible repeat (first | refine blk_drewN ?_ _ | refine blk_drew ?_ | refine blk_alloc ?_ _)); refine blk_put (cs := #[.int .i64 x169000_3, .string (x5_1.extract 0 (t166 : Int).toNat), .string (⟨#[]⟩ : ByteArray)]) ?_ 0 _ rfl; (with_reducible repeat (first | refine blk_drewN ?_ _ | refine blk_drew ?_ | refine blk_alloc ?_ _)); exact BK168.out⟩, ⟨bO⟩⟩
     case rest =>
      clear HC16; (try clear c1); (try clear p1); (try clear q1); (try clear hx1); (try clear c2); (try clear p2); (try clear c3); (try clear c3b0); (try clear c3b1); (try clear p6); (try clear c7); (try clear c8); (try clear c8b0); (try clear c9); (try clear c9b0); (try clear c9b1); (try clear c10); (try clear c10b0); (try clear c10b1); (try clear c13); (try clear c14); (try clear c14b0); (try clear c14b1); (try clear c15); (try clear c15b0); (try clear c15b1); (try clear p17); (try clear q17); (try clear hx17); (try clear c22); (try clear c22b0); (try clear c23); (try clear c23b0)
      (try clear c24); (try clear c24b0); (try clear c25); (try clear c25b0); (try clear c25b1); (try clear c26); (try clear c26b0); (try clear c26b1); (try clear c27); (try clear c27b0); (try clear c27b1); (try clear c28); (try clear c28b0); (try clear c28b1); (try clear c28b2); (try clear c30); (try clear c32); (try clear c32b0); (try clear c32b1); (try clear c33); (try clear c33b0); (try clear c33b1); (try clear hcz18_0); (try clear hcz18_1); (try clear hcz18_2); (try clear hcz34_0); (try clear hcz34_1); (try clear hcz34_2); (try clear hfz18_0); (try clear hfz18_1); (try clear hfz18_2)
      (try clear hfz34_0); (try clear hfz34_1); (try clear hfz34_2); (try clear hx172_0); (try clear p172); (try clear p2); (try clear q172)
      obtain ⟨kq, x5_15, x169000_15, rfl, HA, HJ15, HO_4, BK168, HB⟩ := hcut
      cases kq with
      | zero => exact absurd HA.out (by simp [policy_scope.j3])
      | succ kj15 =>
       have H := HA.out; clear HA
       simp only [policy_scope.j3] at H
       by_cases c35 : x169000_15 = 0
       ·
        rw [if_pos c35] at H
        have c35b0 : (x169000_15 == 0) = true := beq_iff_eq.mpr c35
        have c35b1 : (x169000_15 != 0) = false := bne_eq_false_iff_eq.mpr c35
        clear c35
        simp only [Option.some.injEq, Prod.mk.injEq] at H
        obtain ⟨rfl, rfl⟩ := H
        have hcz36_0 : wc.cell? ⟨gb168, 0, none⟩ = some (.int .i64 x169000_15) := (blk_cell BK168.out 0).trans rfl
        have hcz36_1 : wc.cell? ⟨gb168, 1, none⟩ = some (.string (x5_1.extract 0 (t166 : Int).toNat)) := (blk_cell BK168.out 1).trans rfl
        have hcz36_2 : wc.cell? ⟨gb168, 2, none⟩ = some (.string (⟨#[]⟩ : ByteArray)) := (blk_cell BK168.out 2).trans rfl
        have hfz36_0 := blk_frozen BK168.out 0; have hfz36_1 := blk_frozen BK168.out 1; have hfz36_2 := blk_frozen BK168.out 2; go_wp2; go_ret2
        exact ⟨_, eR, by first | exact Kd.R_nil _ _ _ _ _ | exact Kd.N_nil _ _ _ _ _ | exact Kd.V_nil _ _ _ _ _ | exact Kd.Q_nil _ _ _ _ _ | exact Kd.S_nil _ _ _ _ _, bO⟩
       rw [if_neg c35] at H
       have c35b0 : (x169000_15 == 0) = false := beq_eq_false_iff_ne.mpr c35
       have c35b1 : (x169000_15 != 0) = true := bne_iff_ne.mpr c35
       have H' := Aside0.mk H; clear H
       have hcz37_0 : wc.cell? ⟨gb168, 0, none⟩ = some (.int .i64 x169000_15) := (blk_cell BK168.out 0).trans rfl
       have hcz37_1 : wc.cell? ⟨gb168, 1, none⟩ = some (.string (x5_1.extract 0 (t166 : Int).toNat)) := (blk_cell BK168.out 1).trans rfl
       have hcz37_2 : wc.cell? ⟨gb168, 2, none⟩ = some (.string (⟨#[]⟩ : ByteArray)) := (blk_cell BK168.out 2).trans rfl
       have hfz37_0 := blk_frozen BK168.out 0; have hfz37_1 := blk_frozen BK168.out 1; have hfz37_2 := blk_frozen BK168.out 2; go_wp2
       go_loopg [10] kj15 (fun kq v10 w' => ∃ (x10_4 : Int), v10 = .int .i64 x10_4 ∧ Aside0 (policy_scope.l2 kq x4_1 x5_15 x10_4 x169000_15 (x5_1.extract 0 (t166 : Int).toNat) (⟨#[]⟩ : ByteArray) = some (r1, r2)) ∧ Aside0 (kq ≤ kj15) ∧ Aside0 (Kd.R k33 33 w' w.heap.size (fun k_ => k_ ≠ gb168) u4 x4_1) ∧ Aside0 (w'.heap[gb168]? = some (.cells #[.int .i64 x169000_15, .string (x5_1.extract 0 (t166 : Int).toNat), .string (⟨#[]⟩ : ByteArray)] 33 (0, 0))) ∧ Aside0 (Below w.heap.size w w'))
       case atStart => exact ⟨(1), sR, H', ⟨Nat.le_refl _⟩, ⟨by (with_reducible repeat (first | apply Kd.R_alloc | apply Kd.R_drewN | apply Kd.R_drew)); exact HO_4.out⟩, ⟨by (with_reducible repeat (first | refine blk_drewN ?_ _ | refine blk_drew ?_ | refine blk_alloc ?_ _)); exact BK168.out⟩, ⟨bO⟩⟩
       case round =>
        clear H'; (try clear c1); (try clear p1); (try clear q1); (try clear hx1); (try clear c2); (try clear p2); (try clear c3); (try clear c3b0); (try clear c3b1); (try clear p6); (try clear c7); (try clear c8); (try clear c8b0); (try clear c9); (try clear c9b0); (try clear c9b1); (try clear c10); (try clear c10b0); (try clear c10b1); (try clear c13); (try clear c14); (try clear c14b0); (try clear c14b1); (try clear c15); (try clear c15b0); (try clear c15b1); (try clear p17); (try clear q17); (try clear hx17); (try clear c22); (try clear c22b0); (try clear c23); (try clear c23b0)
        (try clear c24); (try clear c24b0); (try clear c25); (try clear c25b0); (try clear c25b1); (try clear c26); (try clear c26b0); (try clear c26b1); (try clear c27); (try clear c27b0); (try clear c27b1); (try clear c28); (try clear c28b0); (try clear c28b1); (try clear c28b2); (try clear c30); (try clear c32); (try clear c32b0); (try clear c32b1); (try clear c33); (try clear c33b0); (try clear c33b1); (try clear c35); (try clear c35b0); (try clear c35b1); (try clear hcz18_0); (try clear hcz18_1); (try clear hcz18_2); (try clear hcz34_0); (try clear hcz34_1); (try clear hcz34_2)
        (try clear hcz36_0); (try clear hcz36_1); (try clear hcz36_2); (try clear hcz37_0); (try clear hcz37_1); (try clear hcz37_2); (try clear hfz18_0); (try clear hfz18_1); (try clear hfz18_2); (try clear hfz34_0); (try clear hfz34_1); (try clear hfz34_2); (try clear hfz36_0); (try clear hfz36_1); (try clear hfz36_2); (try clear hfz37_0); (try clear hfz37_1); (try clear hfz37_2); (try clear hx172_0); (try clear p1); (try clear p17); (try clear p172); (try clear p2); (try clear p6); (try clear q1); (try clear q17); (try clear q172)
        obtain ⟨x10_4, rfl, HA, HK4, HO_4, BK168, HB⟩ := hrel
        cases gk with
        | zero => exact absurd HA.out (by simp [policy_scope.l2])
        | succ k4 =>
         have H := HA.out; clear HA
         simp only [policy_scope.l2] at H
         have HC38 := Aside0.mk H; clear H
         go_upto_region 18 with (fail)
         go_cut [70] (fun v70 wc => ∃ (kq : Nat) (x70_37 : Bool), v70 = .bool x70_37 ∧ Aside0 (policy_scope.j5 kq x4_1 x5_15 x10_4 x70_37 x169000_15 (x5_1.extract 0 (t166 : Int).toNat) (⟨#[]⟩ : ByteArray) = some (r1, r2)) ∧ Aside0 (kq ≤ k4) ∧ Aside0 (Kd.R k33 33 wc w.heap.size (fun k_ => k_ ≠ gb168) u4 x4_1) ∧ Aside0 (wc.heap[gb168]? = some (.cells #[.int .i64 x169000_15, .string (x5_1.extract 0 (t166 : Int).toNat), .string (⟨#[]⟩ : ByteArray)] 33 (0, 0))) ∧ Aside0 (Below w.heap.size w wc))
         case first =>
          have H := HC38.out; clear HC38; by_cases c39 : x10_4 < (x5_15.size : Int); rotate_left
          ·
           rw [if_neg c39] at H
           have c39b0 : decide (x10_4 < (x5_15.size : Int)) = false := decide_eq_false c39
           clear c39
           (first | rw [c39b0] | (simp only [i64_w, i32_w]; rw [c39b0]) | skip)
           have H' := Aside0.mk H; clear H; go_wp2
           go_meet
           case rel => exact ⟨_, (false), sR, H', ⟨by have := HK1.out; have := HJ5.out; have := HJ15.out; have := HK4.out; first | omega | exact Nat.le_refl _⟩, ⟨by (with_reducible repeat (first | apply Kd.R_alloc | apply Kd.R_drewN | apply Kd.R_drew)); exact HO_4.out⟩, ⟨by (with_reducible repeat (first | refine blk_drewN ?_ _ | refine blk_drew ?_ | refine blk_alloc ?_ _)); exact BK168.out⟩, ⟨bO⟩⟩
          rw [if_pos c39] at H
          have c39b0 : decide (x10_4 < (x5_15.size : Int)) = true := decide_eq_true c39
          clear c39
          (first | rw [c39b0] | (simp only [i64_w, i32_w]; rw [c39b0]) | skip)
          by_cases c40 : 0 ≤ x10_4; rotate_left
          · rw [if_neg c40] at H; exact absurd H (by simp)
          rw [if_pos c40] at H
          have c40b0 : decide (0 ≤ x10_4) = true := decide_eq_true c40
          clear c40; have H' := Aside0.mk H; clear H
          have p41 : 0 ≤ (x10_4 : Int) := of_decide_eq_true asm
          have q41 : x10_4 < (x5_15.size : Int) := of_decide_eq_true asm
          have hx41 := bt_at x5_15 x10_4; replace p41 := eq_true p41; replace q41 := eq_true q41; go_wp2
          go_meet
          case rel => exact ⟨_, (((bt x5_15 x10_4) != 34)), sR, H', ⟨by have := HK1.out; have := HJ5.out; have := HJ15.out; have := HK4.out; first | omega | exact Nat.le_refl _⟩, ⟨by (with_reducible repeat (first | apply Kd.R_alloc | apply Kd.R_drewN | apply Kd.R_drew)); exact HO_4.out⟩, ⟨by (with_reducible repeat (first | refine blk_drewN ?_ _ | refine blk_drew ?_ | refine blk_alloc ?_ _)); exact BK168.out⟩, ⟨bO⟩⟩
         case rest =>
          clear HC38; (try clear c1); (try clear p1); (try clear q1); (try clear hx1); (try clear c2); (try clear p2); (try clear c3); (try clear c3b0); (try clear c3b1); (try clear c4); (try clear p4); (try clear q4); (try clear hx4); (try clear p6); (try clear c7); (try clear c8); (try clear c8b0); (try clear c9); (try clear c9b0); (try clear c9b1); (try clear c10); (try clear c10b0); (try clear c10b1); (try clear c13); (try clear c14); (try clear c14b0); (try clear c14b1); (try clear c15); (try clear c15b0); (try clear c15b1); (try clear p17); (try clear q17); (try clear hx17)
          (try clear c22); (try clear c22b0); (try clear c23); (try clear c23b0); (try clear c24); (try clear c24b0); (try clear c25); (try clear c25b0); (try clear c25b1); (try clear c26); (try clear c26b0); (try clear c26b1); (try clear c27); (try clear c27b0); (try clear c27b1); (try clear c28); (try clear c28b0); (try clear c28b1); (try clear c28b2); (try clear c30); (try clear c32); (try clear c32b0); (try clear c32b1); (try clear c33); (try clear c33b0); (try clear c33b1); (try clear c35); (try clear c35b0); (try clear c35b1); (try clear c39); (try clear c39b0); (try clear c40)
          (try clear c40b0); (try clear p41); (try clear q41); (try clear hx41); (try clear hcz18_0); (try clear hcz18_1); (try clear hcz18_2); (try clear hcz34_0); (try clear hcz34_1); (try clear hcz34_2); (try clear hcz36_0); (try clear hcz36_1); (try clear hcz36_2); (try clear hcz37_0); (try clear hcz37_1); (try clear hcz37_2); (try clear hfz18_0); (try clear hfz18_1); (try clear hfz18_2); (try clear hfz34_0); (try clear hfz34_1); (try clear hfz34_2); (try clear hfz36_0); (try clear hfz36_1); (try clear hfz36_2); (try clear hfz37_0); (try clear hfz37_1); (try clear hfz37_2)
          (try clear hx172_0); (try clear p1); (try clear p17); (try clear p172); (try clear p2); (try clear p41); (try clear p6); (try clear q1); (try clear q17); (try clear q172); (try clear q41)
          obtain ⟨kq, x70_37, rfl, HA, HJ37, HO_4, BK168, HB⟩ := hcut
          cases kq with
          | zero => exact absurd HA.out (by simp [policy_scope.j5])
          | succ kj37 =>
           have H := HA.out; clear HA
           simp only [policy_scope.j5] at H
           by_cases c42 : x70_37 = true
           ·
            subst c42
            have H1 : (if 0 ≤ x10_4 then (if x10_4 < (x5_15.size : Int) then (if (bt x5_15 x10_4) = 92 then (policy_scope.l2 kj37 x4_1 x5_15 (wrap64 ((wrap64 (x10_4 + 1)) + 1)) x169000_15 (x5_1.extract 0 (t166 : Int).toNat) (⟨#[]⟩ : ByteArray)) else (policy_scope.l2 kj37 x4_1 x5_15 (wrap64 (x10_4 + 1)) x169000_15 (x5_1.extract 0 (t166 : Int).toNat) (⟨#[]⟩ : ByteArray))) else (none)) else (none)) = some (r1, r2) := by rw [if_pos rfl] at H; exact H
            clear H; have H := H1; clear H1; by_cases c43 : 0 ≤ x10_4; rotate_left
            · rw [if_neg c43] at H; exact absurd H (by simp)
            rw [if_pos c43] at H
            have c43b0 : decide (0 ≤ x10_4) = true := decide_eq_true c43
            clear c43; by_cases c44 : x10_4 < (x5_15.size : Int); rotate_left
            · rw [if_neg c44] at H; exact absurd H (by simp)
            rw [if_pos c44] at H
            have c44b0 : decide (x10_4 < (x5_15.size : Int)) = true := decide_eq_true c44
            clear c44; by_cases c46 : (bt x5_15 x10_4) = 92; rotate_left
            ·
             rw [if_neg c46] at H
             have c46b0 : ((bt x5_15 x10_4) == 92) = false := beq_eq_false_iff_ne.mpr c46
             have c46b1 : ((bt x5_15 x10_4) != 92) = true := bne_iff_ne.mpr c46
             have H' := Aside0.mk H; clear H
             have p45 : 0 ≤ (x10_4 : Int) := of_decide_eq_true asm
             have q45 : x10_4 < (x5_15.size : Int) := of_decide_eq_true asm
             have hx45 := bt_at x5_15 x10_4; replace p45 := eq_true p45; replace q45 := eq_true q45; go_wp2
             go_roundg kj37
             case measure => have := HK1.out; have := HJ5.out; have := HJ15.out; have := HK4.out; have := HJ37.out; omega
             case rel => exact ⟨(wrap64 (x10_4 + 1)), sR, H', ⟨by have := HK1.out; have := HJ5.out; have := HJ15.out; have := HK4.out; have := HJ37.out; omega⟩, ⟨by (with_reducible repeat (first | apply Kd.R_alloc | apply Kd.R_drewN | apply Kd.R_drew)); exact HO_4.out⟩, ⟨by (with_reducible repeat (first | refine blk_drewN ?_ _ | refine blk_drew ?_ | refine blk_alloc ?_ _)); exact BK168.out⟩, ⟨bO⟩⟩
            rw [if_pos c46] at H
            have c46b0 : ((bt x5_15 x10_4) == 92) = true := beq_iff_eq.mpr c46
            have c46b1 : ((bt x5_15 x10_4) != 92) = false := bne_eq_false_iff_eq.mpr c46
            clear c46; have H' := Aside0.mk H; clear H
            have p45 : 0 ≤ (x10_4 : Int) := of_decide_eq_true asm
            have q45 : x10_4 < (x5_15.size : Int) := of_decide_eq_true asm
            have hx45 := bt_at x5_15 x10_4; replace p45 := eq_true p45; replace q45 := eq_true q45; go_wp2
            go_roundg kj37
            case measure => have := HK1.out; have := HJ5.out; have := HJ15.out; have := HK4.out; have := HJ37.out; omega
            case rel => exact ⟨(wrap64 ((wrap64 (x10_4 + 1)) + 1)), sR, H', ⟨by have := HK1.out; have := HJ5.out; have := HJ15.out; have := HK4.out; have := HJ37.out; omega⟩, ⟨by (with_reducible repeat (first | apply Kd.R_alloc | apply Kd.R_drewN | apply Kd.R_drew)); exact HO_4.out⟩, ⟨by (with_reducible repeat (first | refine blk_drewN ?_ _ | refine blk_drew ?_ | refine blk_alloc ?_ _)); exact BK168.out⟩, ⟨bO⟩⟩
           replace c42 := Bool.eq_false_iff.mpr c42
           subst c42
           have H1 : (if x10_4 ≥ (x5_15.size : Int) then (some (([] : List (S33)), false)) else (if 0 ≤ (wrap64 (x10_4 + 1)) then (if (wrap64 (x10_4 + 1)) ≤ (x5_15.size : Int) then ((attr_Unquote.f kj37 (x5_15.extract 0 ((wrap64 (x10_4 + 1)) : Int).toNat)).bind fun bt174 => (if bt174.2 = 0 then (if x4_1.length < 3518437208883 then ((strings_TrimPrefix.f (x5_15.extract ((wrap64 (x10_4 + 1)) : Int).toNat x5_15.size) (⟨#[44, 32]⟩ : ByteArray)).bind fun t179 => (policy_scope.l0 kj37 (x4_1 ++ [(⟨x169000_15, (x5_1.extract 0 (t166 : Int).toNat), bt174.1⟩ : S33)]) t179)) else (none)) else (some (([] : List (S33)), false)))) else (none)) else (none))) = some (r1, r2) := by rw [if_neg (show ¬ (false = true) by decide)] at H; exact H
           clear H; have H := H1; clear H1; by_cases c47 : x10_4 ≥ (x5_15.size : Int)
           ·
            rw [if_pos c47] at H
            have c47b0 : decide ((x5_15.size : Int) ≤ x10_4) = true := decide_eq_true c47
            clear c47
            simp only [Option.some.injEq, Prod.mk.injEq] at H
            obtain ⟨rfl, rfl⟩ := H
            go_wp2; go_ret2
            exact ⟨_, eR, by first | exact Kd.R_nil _ _ _ _ _ | exact Kd.N_nil _ _ _ _ _ | exact Kd.V_nil _ _ _ _ _ | exact Kd.Q_nil _ _ _ _ _ | exact Kd.S_nil _ _ _ _ _, bO⟩
           rw [if_neg c47] at H
           have c47b0 : decide ((x5_15.size : Int) ≤ x10_4) = false := decide_eq_false c47
           clear c47
           obtain ⟨ji48, hji48⟩ : ∃ j_ : Int, (wrap64 (x10_4 + 1)) = j_ := ⟨_, rfl⟩
           replace H : (if 0 ≤ (ji48) then (if (ji48) ≤ (x5_15.size : Int) then ((attr_Unquote.f kj37 (x5_15.extract 0 ((ji48) : Int).toNat)).bind fun bt174 => (if bt174.2 = 0 then (if x4_1.length < 3518437208883 then ((strings_TrimPrefix.f (x5_15.extract ((ji48) : Int).toNat x5_15.size) (⟨#[44, 32]⟩ : ByteArray)).bind fun t179 => (policy_scope.l0 kj37 (x4_1 ++ [(⟨x169000_15, (x5_1.extract 0 (t166 : Int).toNat), bt174.1⟩ : S33)]) t179)) else (none)) else (some (([] : List (S33)), false)))) else (none)) else (none)) = some (r1, r2) := by first | (rw [hji48] at H; exact H) | (simp only [hji48] at H ⊢; exact H)
           have hji48w : (IntKind.i64.wrap (x10_4 + 1)) = ji48 := (i64_w _).trans hji48
           by_cases c49 : 0 ≤ (ji48); rotate_left
           · rw [if_neg c49] at H; exact absurd H (by simp)
           rw [if_pos c49] at H; have c49b0 := eq_true c49
           have c49b1 : decide (0 ≤ (ji48)) = true := decide_eq_true c49
           clear c49; by_cases c50 : (ji48) ≤ (x5_15.size : Int); rotate_left
           · rw [if_neg c50] at H; exact absurd H (by simp)
           rw [if_pos c50] at H; have c50b0 := eq_true c50
           have c50b1 : decide ((ji48) ≤ (x5_15.size : Int)) = true := decide_eq_true c50
           clear c50
           replace H := Option.bind_eq_some_iff.mp H
           obtain ⟨⟨t174, t175⟩, A510, H⟩ := H
           replace H : (if t175 = 0 then (if x4_1.length < 3518437208883 then ((strings_TrimPrefix.f (x5_15.extract ((ji48) : Int).toNat x5_15.size) (⟨#[44, 32]⟩ : ByteArray)).bind fun t179 => (policy_scope.l0 kj37 (x4_1 ++ [(⟨x169000_15, (x5_1.extract 0 (t166 : Int).toNat), t174⟩ : S33)]) t179)) else (none)) else (some (([] : List (S33)), false))) = some (r1, r2) := H
           have A51 := Aside0.mk A510; clear A510; by_cases c52 : t175 = 0; rotate_left
           ·
            rw [if_neg c52] at H
            have c52b0 : (t175 == 0) = false := beq_eq_false_iff_ne.mpr c52
            have c52b1 : (t175 != 0) = true := bne_iff_ne.mpr c52
            simp only [Option.some.injEq, Prod.mk.injEq] at H
            obtain ⟨rfl, rfl⟩ := H
            go_wp2_with (first | ((with_reducible refine gate_callee (f := 109) rfl ?_); refine goesL_ (some 88) rfl rfl Tryz.func109 (by kernel_rfl) rfl #[.string (x5_15.extract 0 ((ji48) : Int).toNat)] rfl (by (try simp only [List.map_toArray, List.map_cons, List.map_nil]); first | done | (simp only [hji48]; rfl) | rfl | (simp only [List.length_drop, List.length_take]; rfl)) ?_; (with_reducible refine (attr_Unquote.calls kj37 (x5_15.extract 0 ((ji48) : Int).toNat) t174 t175 _ A51.out).mono ?_); rintro e w60 ⟨rfl, hb⟩; refine ⟨_, rfl, ?_⟩; have n0_ := Aside0.mk (Kd.R_below (by (with_reducible repeat (first | apply Kd.R_alloc | apply Kd.R_drewN | apply Kd.R_drew)); exact HO_4.out) hb); have n1_ := Aside0.mk (blk_below (g := gb168) (o := .cells #[.int .i64 x169000_15, .string (x5_1.extract 0 (t166 : Int).toNat), .string (⟨#[]⟩ : ByteArray)] 33 (0, 0)) bK hb); have n2_ := Aside0.mk (below_step bO hb); clear HO_4; clear BK168; clear HB; have HO_4 := n0_; have BK168 := n1_; have HB := n2_; clear n0_ n1_ n2_; (try clear hb); (try clear hb2); (try clear hk); (try clear hi)))
            go_ret2
            exact ⟨_, by first | rfl | (simp [errW_none, errW_some] <;> rfl) | (simp only [← hji48]; first | rfl | (simp [errW_none, errW_some] <;> rfl)) | (simp [*, errW_none, errW_some] <;> rfl), by first | exact Kd.R_nil _ _ _ _ _ | exact Kd.N_nil _ _ _ _ _ | exact Kd.V_nil _ _ _ _ _ | exact Kd.Q_nil _ _ _ _ _ | exact Kd.S_nil _ _ _ _ _, bO⟩
           rw [if_pos c52] at H
           have c52b0 : (t175 == 0) = true := beq_iff_eq.mpr c52
           have c52b1 : (t175 != 0) = false := bne_eq_false_iff_eq.mpr c52
           clear c52; by_cases c53 : x4_1.length < 3518437208883; rotate_left
           · rw [if_neg c53] at H; exact absurd H (by simp)
           rw [if_pos c53] at H; have LMc53 := Aside0.mk c53; clear c53
           obtain ⟨y176, hy176⟩ : ∃ y_ : List (S33), y_ = (x4_1 ++ [(⟨x169000_15, (x5_1.extract 0 (t166 : Int).toNat), t174⟩ : S33)]) := ⟨_, rfl⟩
           replace H : ((strings_TrimPrefix.f (x5_15.extract ((ji48) : Int).toNat x5_15.size) (⟨#[44, 32]⟩ : ByteArray)).bind fun t179 => (policy_scope.l0 kj37 y176 t179)) = some (r1, r2) := by first | (rw [hy176]; with_reducible exact H) | (have H2_ := (Option.bind_some _ _).symm.trans H; rw [hy176]; with_reducible exact H2_) | (have H2_ := (Option.bind_some _ _).symm.trans H; with_reducible exact H2_) | with_reducible exact H | (rw [hy176]; exact H) | exact H
           have Ny176 := Aside0.mk hy176; clear hy176; have c54b0 := eq_true (of_decide_eq_true asm : 0 ≤ (ji48)); have c55b0 := eq_true (of_decide_eq_true asm : (ji48) ≤ (x5_15.size : Int))
           replace H := Option.bind_eq_some_iff.mp H
           obtain ⟨t179, A560, H⟩ := H
           replace H : (policy_scope.l0 kj37 y176 t179) = some (r1, r2) := H
           have A56 := Aside0.mk A560; clear A560; have H' := Aside0.mk H; clear H
           go_wp2_with (first | ((with_reducible refine gate_callee (f := 109) rfl ?_); refine goesL_ (some 88) rfl rfl Tryz.func109 (by kernel_rfl) rfl #[.string (x5_15.extract 0 ((ji48) : Int).toNat)] rfl (by (try simp only [List.map_toArray, List.map_cons, List.map_nil]); first | done | (simp only [hji48]; rfl) | rfl | (simp only [List.length_drop, List.length_take]; rfl)) ?_; (with_reducible refine (attr_Unquote.calls kj37 (x5_15.extract 0 ((ji48) : Int).toNat) t174 t175 _ A51.out).mono ?_); rintro e w57 ⟨rfl, hb⟩; refine ⟨_, rfl, ?_⟩; have n0_ := Aside0.mk (Kd.R_below (by (with_reducible repeat (first | apply Kd.R_alloc | apply Kd.R_drewN | apply Kd.R_drew)); exact HO_4.out) hb); have n1_ := Aside0.mk (blk_below (g := gb168) (o := .cells #[.int .i64 x169000_15, .string (x5_1.extract 0 (t166 : Int).toNat), .string (⟨#[]⟩ : ByteArray)] 33 (0, 0)) bK hb); have n2_ := Aside0.mk (below_step bO hb); clear HO_4; clear BK168; clear HB; have HO_4 := n0_; have BK168 := n1_; have HB := n2_; clear n0_ n1_ n2_; (try clear hb); (try clear hb2); (try clear hk); (try clear hi); have hcz58_0 : w57.cell? ⟨gb168, 0, none⟩ = some (.int .i64 x169000_15) := (blk_cell BK168.out 0).trans rfl; have hcz58_1 : w57.cell? ⟨gb168, 1, none⟩ = some (.string (x5_1.extract 0 (t166 : Int).toNat)) := (blk_cell BK168.out 1).trans rfl; have hcz58_2 : w57.cell? ⟨gb168, 2, none⟩ = some (.string (⟨#[]⟩ : ByteArray)) := (blk_cell BK168.out 2).trans rfl; have hfz58_0 := blk_frozen BK168.out 0; have hfz58_1 := blk_frozen BK168.out 1; have hfz58_2 := blk_frozen BK168.out 2) | ((with_reducible refine gate_builtin (b := .append) (xs := #[.tmp 95, .tmp 97]) rfl ?_); at_builtin; refine Kd.R_append k33 (w0 := w) w.heap.size rfl (.tmp 95) (.tmp 97) 28 33 (.agg #[(.int .i64 0), (.string ⟨#[]⟩), (.string ⟨#[]⟩)]) 40 rfl Tryz.underlying28 info33 rfl (by decide) (by omega) u4 x4_1 (⟨x169000_15, (x5_1.extract 0 (t166 : Int).toNat), t174⟩ : S33) [.int .i64 x169000_15, .string (x5_1.extract 0 (t166 : Int).toNat), .string t174] (fun k_ => k_ ≠ gb168) (fun _ => False) rfl (by first | (go_simp; done) | (go_simp; rfl)) ?aP (fun _ hk => hk.elim) ?aF ?aO ?aB ?aS ?aL ?_; (case aP => exact k33_mkM _ _ _ (⟨x169000_15, (x5_1.extract 0 (t166 : Int).toNat), t174⟩ : S33)); (case aB => exact bO); (case aF => exact (fun k_ hk => Kd.freshB (g := gb168) (o := .cells #[.int .i64 x169000_15, .string (x5_1.extract 0 (t166 : Int).toNat), .string t174] 33 (0, 0)) (by (with_reducible repeat (first | refine blk_drewN ?_ _ | refine blk_drew ?_ | refine blk_alloc ?_ _)); refine blk_put (cs := #[.int .i64 x169000_15, .string (x5_1.extract 0 (t166 : Int).toNat), .string (⟨#[]⟩ : ByteArray)]) ?_ 2 _ rfl; (with_reducible repeat (first | refine blk_drewN ?_ _ | refine blk_drew ?_ | refine blk_alloc ?_ _)); exact BK168.out) k_ hk)); (case aO => exact (by (with_reducible repeat (first | apply Kd.R_alloc | apply Kd.R_drewN | apply Kd.R_drew)); exact Kd.R_mono (Kd.R_far (p := ⟨gb168, 2, none⟩) (Kd.R_mono HO_4.out (fun k_ hk => (⟨hk, hk⟩ : _ ∧ k_ ≠ gb168))) (fun _ hk => hk.2) (.string t174)) (fun _ hk => hk.1))); (case aS => exact (below_size bO)); (case aL => have := LMc53.out; omega); intro v177 w59 ho hb hg hat; rw [← Ny176.out] at ho; have n0_ := Aside0.mk (blk_grown (g := gb168) (o := .cells #[.int .i64 x169000_15, .string (x5_1.extract 0 (t166 : Int).toNat), .string t174] 33 (0, 0)) (by (with_reducible repeat (first | refine blk_drewN ?_ _ | refine blk_drew ?_ | refine blk_alloc ?_ _)); refine blk_put (cs := #[.int .i64 x169000_15, .string (x5_1.extract 0 (t166 : Int).toNat), .string (⟨#[]⟩ : ByteArray)]) ?_ 2 _ rfl; (with_reducible repeat (first | refine blk_drewN ?_ _ | refine blk_drew ?_ | refine blk_alloc ?_ _)); exact BK168.out) hg (Kd.R_away HO_4.out (fun _ hk => hk))); have n1_ := Aside0.mk (hb); have n2_ := Aside0.mk (ho); clear BK168; clear HB; clear HO_4; have BK168 := n0_; have HB := n1_; have HO178 := n2_; clear n0_ n1_ n2_; clear ho hb hg hat) | ((with_reducible refine gate_callee (f := 79) rfl ?_); refine goesL_ (some 103) rfl rfl Tryz.func79 (by kernel_rfl) rfl #[.string (x5_15.extract ((ji48) : Int).toNat x5_15.size), .string (⟨#[44, 32]⟩ : ByteArray)] rfl (by (try simp only [List.map_toArray, List.map_cons, List.map_nil]); first | done | (simp only [hji48]; rfl) | rfl | (simp only [List.length_drop, List.length_take]; rfl)) ?_; (with_reducible refine (strings_TrimPrefix.calls (x5_15.extract ((ji48) : Int).toNat x5_15.size) (⟨#[44, 32]⟩ : ByteArray) t179 _ A56.out).mono ?_); rintro e w' ⟨rfl, ⟨nd, rfl⟩⟩; refine ⟨_, rfl, ?_⟩))
           go_roundg kj37
           case measure => have := HK1.out; have := HJ5.out; have := HJ15.out; have := HK4.out; have := HJ37.out; omega
           case rel => exact ⟨(y176), (t179), sR, H', ⟨by have := HK1.out; have := HJ5.out; have := HJ15.out; have := HK4.out; have := HJ37.out; omega⟩, ⟨by (with_reducible repeat (first | apply Kd.R_alloc | apply Kd.R_drewN | apply Kd.R_drew)); exact Kd.R_mono HO178.out (fun _ hk => trivial)⟩, ⟨bO⟩⟩
end Go.Proofs.YtkedidjjhhjdbaaGreatDoor.Pr
