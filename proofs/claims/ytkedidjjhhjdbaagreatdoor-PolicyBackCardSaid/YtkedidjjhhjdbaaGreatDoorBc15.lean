import Derived.Test.YtkedidjjhhjdbaaGreatDoorBc0
import Derived.Test.YtkedidjjhhjdbaaGreatDoorBc5
import Derived.Test.YtkedidjjhhjdbaaGreatDoorBc7
import Derived.Test.YtkedidjjhhjdbaaGreatDoorBc6
import Derived.Test.YtkedidjjhhjdbaaGreatDoorBc11
import Derived.Test.YtkedidjjhhjdbaaGreatDoorBc14
namespace Go.Proofs.YtkedidjjhhjdbaaGreatDoor.Pr
open Go.RowKit Go.Proofs.YtkedidjjhhjdbaaGreatDoorW.PrintWords Go.Proofs.YtkedidjjhhjdbaaGreatDoorW.PrintLast Go.Proofs.YtkedidjjhhjdbaaGreatDoorW.PrintMore
attribute [local go_sem] max2_int min2_int max_two min_two max_three min_three max_four min_four strGtr strLeq strGeq
set_option linter.unusedVariables false
set_option linter.unusedSimpArgs false
def attr_MatchText.l0 : Nat → List ByteArray → List (S33) → Int → Int → Option (ByteArray)
  | 0, _, _, _, _ => none
  | k + 1, x3, x6, x7, x8 => if x8 < x7 then (if 0 ≤ x8 then (if x8 < (x6.length : Int) then ((attr_sign.f ((rd_T33 x6 x8).f0)).bind fun t141 => (if ((rd_T33 x6 x8).f1).size + t141.size ≤ 9223372036854775807 then ((attr_Quote.f ((rd_T33 x6 x8).f2)).bind fun t142 => (if (((rd_T33 x6 x8).f1) ++ t141).size + t142.size ≤ 9223372036854775807 then (if x3.length < 8796093022208 then (attr_MatchText.l0 k (x3 ++ [(((rd_T33 x6 x8).f1) ++ t141) ++ t142]) x6 x7 (wrap64 (x8 + 1))) else (none)) else (none))) else (none))) else (none)) else (none)) else ((strings_Join.f x3 (⟨#[44, 32]⟩ : ByteArray)).bind fun t146 => (if 1 + t146.size ≤ 9223372036854775807 then (if ((⟨#[123]⟩ : ByteArray) ++ t146).size + 1 ≤ 9223372036854775807 then (some (((⟨#[123]⟩ : ByteArray) ++ t146) ++ (⟨#[125]⟩ : ByteArray))) else (none)) else (none)))
def attr_MatchText.f (k : Nat) (l0 : List (S33)) : Option (ByteArray) := attr_MatchText.l0 k ([] : List ByteArray) l0 (l0.length : Int) 0
def attr_MatchText.T5 : Bool × List (List Nat × List Nat) := (true, [([], []), ([], []), ([1], [1]), ([], []), ([3], [3]), ([4], [4]), ([2, 5], [2, 5]), ([], []), ([7], [7]), ([8, 5], [8]), ([6, 9], [6, 9]), ([10], [10]), ([0, 11, 9], [0, 11]), ([12, 12, 0, 1, 2, 3, 4, 5, 6, 7, 8, 9, 10, 11, 12], [0, 12])])
def attr_MatchText.B5 : List Nat := [0, 0, 2, 0, 8, 24, 62, 0, 128, 440, 1022, 2046, 4095, 8191]
theorem attr_MatchText.tab5 : rtab .any (opsOf Tryz.f71 5) = attr_MatchText.T5 := by kernel_rfl
theorem attr_MatchText.bits5 : waitsOk attr_MatchText.T5.2 attr_MatchText.B5 = true := by kernel_rfl
set_option maxHeartbeats 8000000 in
set_option maxRecDepth 100000 in
theorem attr_MatchText.calls (k : Nat) (A0 : Option Addr) (c0 : Nat) (l0 : List (S33)) (r : ByteArray) (w : World) (hr0 : Kd.C k33 w A0 l0.length l0) (hc0 : l0.length ≤ c0) (h : attr_MatchText.f k l0 = some r) :
  Calls Tryz.prog 71 #[.slice A0 l0.length c0] w fun e w' => e = .returned (.string r) ∧ Below w.heap.size w w' := by
 have hu33 := Tryz.underlying33; have HR0 := Aside0.mk hr0; have HC0 := Aside0.mk hc0; clear hr0 hc0; have HB := Aside0.mk (Below.refl w.heap.size w)
 have H : (attr_MatchText.l0 k ([] : List ByteArray) l0 (l0.length : Int) 0) = some r := h
 clear h; have H' := Aside0.mk H; clear H
 go_enter Tryz.func71, Tryz.ntmps71
 go_wp2
 go_loopg [3, 8] k (fun kq v3 v8 w' => ∃ (x3_1 : List ByteArray) (x8_1 : Int), v8 = .int .i64 x8_1 ∧ Aside0 (attr_MatchText.l0 kq x3_1 l0 (l0.length : Int) x8_1 = some r) ∧ Aside0 (kq ≤ k) ∧ Aside0 (Kd.R Kd.string 9 w' w.heap.size (fun _ => True) v3 x3_1) ∧ Aside0 (Below w.heap.size w w'))
 case atStart => exact ⟨(([] : List ByteArray)), (0), sR, H', ⟨Nat.le_refl _⟩, ⟨by first | exact Kd.R_nil _ _ _ _ _ | exact Kd.N_nil _ _ _ _ _ | exact Kd.V_nil _ _ _ _ _ | exact Kd.Q_nil _ _ _ _ _ | exact Kd.S_nil _ _ _ _ _⟩, ⟨bO⟩⟩
 case round =>
  clear H'
  obtain ⟨x3_1, x8_1, rfl, HA, HK1, HO_3, HB⟩ := hrel
  cases gk with
  | zero => exact absurd HA.out (by simp [attr_MatchText.l0])
  | succ k1 =>
   have H := HA.out; clear HA
   simp only [attr_MatchText.l0] at H
   by_cases c2 : x8_1 < (l0.length : Int); rotate_left
   ·
    rw [if_neg c2] at H
    have c2b0 : decide (x8_1 < (l0.length : Int)) = false := decide_eq_false c2
    clear c2
    replace H := Option.bind_eq_some_iff.mp H
    obtain ⟨t146, A160, H⟩ := H
    replace H : (if 1 + t146.size ≤ 9223372036854775807 then (if ((⟨#[123]⟩ : ByteArray) ++ t146).size + 1 ≤ 9223372036854775807 then (some (((⟨#[123]⟩ : ByteArray) ++ t146) ++ (⟨#[125]⟩ : ByteArray))) else (none)) else (none)) = some r := H
    have A16 := Aside0.mk A160; clear A160; by_cases c17 : 1 + t146.size ≤ 9223372036854775807; rotate_left
    · rw [if_neg c17] at H; exact absurd H (by simp)
    rw [if_pos c17] at H; have c17b0 := eq_true c17
    have c17b1 : decide (1 + t146.size ≤ 9223372036854775807) = true := decide_eq_true c17
    try have c17b2 : (9223372036854775807 < 1 + t146.size) = False := eq_false (Nat.not_lt.2 c17)
    by_cases c18 : ((⟨#[123]⟩ : ByteArray) ++ t146).size + 1 ≤ 9223372036854775807; rotate_left
    · rw [if_neg c18] at H; exact absurd H (by simp)
    rw [if_pos c18] at H; have c18b0 := eq_true c18
    have c18b1 : decide (((⟨#[123]⟩ : ByteArray) ++ t146).size + 1 ≤ 9223372036854775807) = true := decide_eq_true c18
    try have c18b2 : (9223372036854775807 < ((⟨#[123]⟩ : ByteArray) ++ t146).size + 1) = False := eq_false (Nat.not_lt.2 c18)
    (try (have c18b3 := c18b2; simp only [ByteArray.size_append', ByteArray.size_mk', List.size_toArray, List.length_cons, List.length_nil, Nat.zero_add, Nat.reduceAdd] at c18b3))
    obtain rfl := Option.some.inj H
    obtain ⟨Ao19, co19, eo19⟩ := Kd.R_slice HO_3.out
    subst eo19
    go_wp2_with (first | ((with_reducible refine gate_callee (f := 72) rfl ?_); refine goesL_ (some 27) rfl rfl Tryz.func72 (by kernel_rfl) rfl #[.slice Ao19 x3_1.length co19, .string (⟨#[44, 32]⟩ : ByteArray)] rfl lR ?_; (with_reducible refine (strings_Join.calls _ _ x3_1 (⟨#[44, 32]⟩ : ByteArray) t146 _ ?side1 ?side2 A16.out).mono ?_); (case side1 => repeat (first | exact (Kd.R_reads' HO_3.out).2.2 | (with_reducible refine Kd.C_alloc ?_ _) | (with_reducible refine Kd.C_drewN ?_ _) | (with_reducible refine Kd.C_drew ?_))); (case side2 => exact (Kd.R_reads' HO_3.out).2.1); rintro e w20 ⟨rfl, hb⟩; refine ⟨_, rfl, ?_⟩; have n0_ := Aside0.mk (Kd.R_below (by (with_reducible repeat (first | apply Kd.R_alloc | apply Kd.R_drewN | apply Kd.R_drew)); exact HO_3.out) hb); have n1_ := Aside0.mk (below_step bO hb); clear HO_3; clear HB; have HO_3 := n0_; have HB := n1_; clear n0_ n1_; (try clear hb); (try clear hb2); (try clear hk); (try clear hi)))
    go_ret
    exact ⟨eR, bO⟩
   rw [if_pos c2] at H
   have c2b0 : decide (x8_1 < (l0.length : Int)) = true := decide_eq_true c2
   clear c2; by_cases c3 : 0 ≤ x8_1; rotate_left
   · rw [if_neg c3] at H; exact absurd H (by simp)
   rw [if_pos c3] at H
   have c3b0 : decide (0 ≤ x8_1) = true := decide_eq_true c3
   clear c3; by_cases c4 : x8_1 < (l0.length : Int); rotate_left
   · rw [if_neg c4] at H; exact absurd H (by simp)
   rw [if_pos c4] at H
   have c4b0 : decide (x8_1 < (l0.length : Int)) = true := decide_eq_true c4
   clear c4
   replace H := Option.bind_eq_some_iff.mp H
   obtain ⟨t141, A50, H⟩ := H
   replace H : (if ((rd_T33 l0 x8_1).f1).size + t141.size ≤ 9223372036854775807 then ((attr_Quote.f ((rd_T33 l0 x8_1).f2)).bind fun t142 => (if (((rd_T33 l0 x8_1).f1) ++ t141).size + t142.size ≤ 9223372036854775807 then (if x3_1.length < 8796093022208 then (attr_MatchText.l0 k1 (x3_1 ++ [(((rd_T33 l0 x8_1).f1) ++ t141) ++ t142]) l0 (l0.length : Int) (wrap64 (x8_1 + 1))) else (none)) else (none))) else (none)) = some r := H
   have A5 := Aside0.mk A50; clear A50; by_cases c6 : ((rd_T33 l0 x8_1).f1).size + t141.size ≤ 9223372036854775807; rotate_left
   · rw [if_neg c6] at H; exact absurd H (by simp)
   rw [if_pos c6] at H; have c6b0 := eq_true c6
   have c6b1 : decide (((rd_T33 l0 x8_1).f1).size + t141.size ≤ 9223372036854775807) = true := decide_eq_true c6
   try have c6b2 : (9223372036854775807 < ((rd_T33 l0 x8_1).f1).size + t141.size) = False := eq_false (Nat.not_lt.2 c6)
   replace H := Option.bind_eq_some_iff.mp H
   obtain ⟨t142, A70, H⟩ := H
   replace H : (if (((rd_T33 l0 x8_1).f1) ++ t141).size + t142.size ≤ 9223372036854775807 then (if x3_1.length < 8796093022208 then (attr_MatchText.l0 k1 (x3_1 ++ [(((rd_T33 l0 x8_1).f1) ++ t141) ++ t142]) l0 (l0.length : Int) (wrap64 (x8_1 + 1))) else (none)) else (none)) = some r := H
   have A7 := Aside0.mk A70; clear A70; by_cases c8 : (((rd_T33 l0 x8_1).f1) ++ t141).size + t142.size ≤ 9223372036854775807; rotate_left
   · rw [if_neg c8] at H; exact absurd H (by simp)
   rw [if_pos c8] at H; have c8b0 := eq_true c8
   have c8b1 : decide ((((rd_T33 l0 x8_1).f1) ++ t141).size + t142.size ≤ 9223372036854775807) = true := decide_eq_true c8
   try have c8b2 : (9223372036854775807 < (((rd_T33 l0 x8_1).f1) ++ t141).size + t142.size) = False := eq_false (Nat.not_lt.2 c8)
   (try (have c8b3 := c8b2; simp only [ByteArray.size_append', ByteArray.size_mk', List.size_toArray, List.length_cons, List.length_nil, Nat.zero_add, Nat.reduceAdd] at c8b3))
   by_cases c9 : x3_1.length < 8796093022208; rotate_left
   · rw [if_neg c9] at H; exact absurd H (by simp)
   rw [if_pos c9] at H; have LMc9 := Aside0.mk c9; clear c9
   obtain ⟨y143, hy143⟩ : ∃ y_ : List ByteArray, y_ = (x3_1 ++ [(((rd_T33 l0 x8_1).f1) ++ t141) ++ t142]) := ⟨_, rfl⟩
   replace H : (attr_MatchText.l0 k1 y143 l0 (l0.length : Int) (wrap64 (x8_1 + 1))) = some r := by first | (rw [hy143]; with_reducible exact H) | (have H2_ := (Option.bind_some _ _).symm.trans H; rw [hy143]; with_reducible exact H2_) | (have H2_ := (Option.bind_some _ _).symm.trans H; with_reducible exact H2_) | with_reducible exact H | (rw [hy143]; exact H) | exact H
   have Ny143 := Aside0.mk hy143; clear hy143; have H' := Aside0.mk H; clear H
   have p139 : 0 ≤ (x8_1 : Int) := of_decide_eq_true asm
   have q139 : x8_1 < (l0.length : Int) := of_decide_eq_true asm
   obtain ⟨ad139, e139, hx139_0, hx139_1, hx139_2⟩ := at_T33 HR0.out x8_1 p139 q139
   cases e139
   replace hx139_0 := bC HB hx139_0
   replace hx139_1 := bC HB hx139_1
   replace hx139_2 := bC HB hx139_2
   replace p139 := eq_true p139; replace q139 := eq_true q139
   try go_wp2_with (first | ((with_reducible refine gate_dst (N := 5) rfl ?_); refine box_event ?hg (N := 5) ?hd (cs := #[.int .i64 0, .string (⟨#[]⟩ : ByteArray), .string (⟨#[]⟩ : ByteArray)]) (t := 33) ?hr ?_; (case hd => rfl); (case hg => rfl); (case hr => first | (go_simp; done) | (go_simp; rfl)); intro gb140 hg w10 hbox hb; have n0_ := Aside0.mk (Kd.R_below (by (with_reducible repeat (first | apply Kd.R_alloc | apply Kd.R_drewN | apply Kd.R_drew)); exact HO_3.out) hb); have n1_ := Aside0.mk (below_step bO hb); have n2_ := Aside0.mk (hbox); have n3_ := Aside0.mk ((by rw [hg]; exact (below_size bO) : w.heap.size ≤ gb140)); have n4_ := Aside0.mk ((by rw [hg]; exact (below_size bO) : w.heap.size ≤ gb140)); clear HO_3; clear HB; have HO_3 := n0_; have HB := n1_; have BK140 := n2_; have GW140 := n3_; have GE140 := n4_; clear n0_ n1_ n2_ n3_ n4_; clear hb hbox hg; have hcz11_0 : w10.cell? ⟨gb140, 0, none⟩ = some (.int .i64 0) := (blk_cell BK140.out 0).trans rfl; have hcz11_1 : w10.cell? ⟨gb140, 1, none⟩ = some (.string (⟨#[]⟩ : ByteArray)) := (blk_cell BK140.out 1).trans rfl; have hcz11_2 : w10.cell? ⟨gb140, 2, none⟩ = some (.string (⟨#[]⟩ : ByteArray)) := (blk_cell BK140.out 2).trans rfl; have hfz11_0 := blk_frozen BK140.out 0; have hfz11_1 := blk_frozen BK140.out 1; have hfz11_2 := blk_frozen BK140.out 2))
   have n0_ : Aside0 (Kd.R Kd.string 9 (((w10.setCell ⟨gb140, 0, none⟩ (.int .i64 ((rd_T33 l0 x8_1).f0))).setCell ⟨gb140, 1, none⟩ (.string ((rd_T33 l0 x8_1).f1))).setCell ⟨gb140, 2, none⟩ (.string ((rd_T33 l0 x8_1).f2))) w.heap.size (fun _ => True) u3 x3_1) := ⟨by (with_reducible repeat (first | apply Kd.R_alloc | apply Kd.R_drewN | apply Kd.R_drew)); exact Kd.R_mono (Kd.R_far (p := ⟨gb140, 2, none⟩) (Kd.R_far (p := ⟨gb140, 1, none⟩) (Kd.R_far (p := ⟨gb140, 0, none⟩) (Kd.R_types HO_3.out BK140.out (by decide)) (fun _ hk => hk.2) (.int .i64 ((rd_T33 l0 x8_1).f0))) (fun _ hk => hk.2) (.string ((rd_T33 l0 x8_1).f1))) (fun _ hk => hk.2) (.string ((rd_T33 l0 x8_1).f2))) (fun _ hk => trivial)⟩
   have n1_ : Aside0 ((((w10.setCell ⟨gb140, 0, none⟩ (.int .i64 ((rd_T33 l0 x8_1).f0))).setCell ⟨gb140, 1, none⟩ (.string ((rd_T33 l0 x8_1).f1))).setCell ⟨gb140, 2, none⟩ (.string ((rd_T33 l0 x8_1).f2))).heap[gb140]? = some (.cells #[.int .i64 ((rd_T33 l0 x8_1).f0), .string ((rd_T33 l0 x8_1).f1), .string ((rd_T33 l0 x8_1).f2)] 33 (0, 0))) := ⟨by (with_reducible repeat (first | refine blk_drewN ?_ _ | refine blk_drew ?_ | refine blk_alloc ?_ _)); refine blk_put (cs := #[.int .i64 ((rd_T33 l0 x8_1).f0), .string ((rd_T33 l0 x8_1).f1), .string (⟨#[]⟩ : ByteArray)]) ?_ 2 _ rfl; (with_reducible repeat (first | refine blk_drewN ?_ _ | refine blk_drew ?_ | refine blk_alloc ?_ _)); refine blk_put (cs := #[.int .i64 ((rd_T33 l0 x8_1).f0), .string (⟨#[]⟩ : ByteArray), .string (⟨#[]⟩ : ByteArray)]) ?_ 1 _ rfl; (with_reducible repeat (first | refine blk_drewN ?_ _ | refine blk_drew ?_ | refine blk_alloc ?_ _)); refine blk_put (cs := #[.int .i64 0, .string (⟨#[]⟩ : ByteArray), .string (⟨#[]⟩ : ByteArray)]) ?_ 0 _ rfl; (with_reducible repeat (first | refine blk_drewN ?_ _ | refine blk_drew ?_ | refine blk_alloc ?_ _)); exact BK140.out⟩
   have n2_ : Aside0 (Below w.heap.size w (((w10.setCell ⟨gb140, 0, none⟩ (.int .i64 ((rd_T33 l0 x8_1).f0))).setCell ⟨gb140, 1, none⟩ (.string ((rd_T33 l0 x8_1).f1))).setCell ⟨gb140, 2, none⟩ (.string ((rd_T33 l0 x8_1).f2)))) := ⟨bO⟩
   (try clear HO_3); (try clear BK140); (try clear HB); generalize (((w10.setCell ⟨gb140, 0, none⟩ (.int .i64 ((rd_T33 l0 x8_1).f0))).setCell ⟨gb140, 1, none⟩ (.string ((rd_T33 l0 x8_1).f1))).setCell ⟨gb140, 2, none⟩ (.string ((rd_T33 l0 x8_1).f2))) = w12 at n0_ n1_ n2_ ⊢; have HO_3 := n0_; have BK140 := n1_; have HB := n2_; clear n0_ n1_ n2_; have n0_ := Aside0.mk (Kd.R_drew HO_3.out); have n1_ := Aside0.mk (blk_drew BK140.out); have n2_ := Aside0.mk (below_drew1 HB.out); clear HO_3; clear BK140; clear HB; have HO_3 := n0_; have BK140 := n1_; have HB := n2_; clear n0_ n1_ n2_
   refine start_ (n := 14) (S := fun w' => w'.cell? ⟨gb140, 0, none⟩ = some (.int .i64 ((rd_T33 l0 x8_1).f0)) ∧ w'.cell? ⟨gb140, 1, none⟩ = some (.string ((rd_T33 l0 x8_1).f1)) ∧ w'.cell? ⟨gb140, 2, none⟩ = some (.string ((rd_T33 l0 x8_1).f2))) (ds := []) (bA 14 0) (by kernel_rfl) rfl rfl ⟨(blk_cell BK140.out 0).trans rfl, (blk_cell BK140.out 1).trans rfl, (blk_cell BK140.out 2).trans rfl⟩ (fun hHeld => ?_); refine with_tabW attr_MatchText.tab5 attr_MatchText.bits5 (fun HT_ HW_ => ?_)
   generalize w12.drew = w13 at HO_3 BK140 HB hHeld ⊢
   refine purA 0 (some 12) (bA 14 1) HT_ ?_
   refine purA 1 (some 13) (bA 14 3) HT_ ?_
   refine purA 3 (some 15) (bA 14 11) HT_ ?_
   refine purA 7 (some 19) (bA 14 139) HT_ ?_
   refine take_ (i := 2) (N := some 14) (v := ?_) (a' := ?_) (bA 14 143) rfl rfl (take_ofW HT_.out HW_.out (by kernel_rfl)) (fun _ _ _ h => h) (Or.inl ⟨by rfl, ?_⟩) hHeld ?_ ?_
   rotate_left
   ·
    rintro w' ⟨s0, s1, s2⟩
    go_simp; with_reducible rfl
   rotate_left
   · simp only [Act.put, List.setIfInBounds_toArray, List.set_cons_zero, List.set_cons_succ, i64_w, i32_w]; rfl
   refine take_ (i := 4) (N := some 16) (v := ?_) (a' := ?_) (bA 14 159) rfl rfl (take_ofW HT_.out HW_.out (by kernel_rfl)) (fun _ _ _ h => h) (Or.inl ⟨by rfl, ?_⟩) hHeld ?_ ?_
   rotate_left
   ·
    rintro w' ⟨s0, s1, s2⟩
    go_simp; with_reducible rfl
   rotate_left
   · simp only [Act.put, List.setIfInBounds_toArray, List.set_cons_zero, List.set_cons_succ, i64_w, i32_w]; rfl
   refine take_ (i := 8) (N := some 20) (v := ?_) (a' := ?_) (bA 14 415) rfl rfl (take_ofW HT_.out HW_.out (by kernel_rfl)) (fun _ _ _ h => h) (Or.inl ⟨by rfl, ?_⟩) hHeld ?_ ?_
   rotate_left
   ·
    rintro w' ⟨s0, s1, s2⟩
    go_simp; with_reducible rfl
   rotate_left
   · simp only [Act.put, List.setIfInBounds_toArray, List.set_cons_zero, List.set_cons_succ, i64_w, i32_w]; rfl
   refine one_ (i := 5) (N := some 17) (bA 14 447) rfl rfl (one_of HT_.out (by kernel_rfl)) (by decide) (fun K hK => ?_)
   refine goes_ Tryz.func92 (by kernel_rfl) rfl #[.int .i64 ((rd_T33 l0 x8_1).f0)] (by rfl) rfl rfl lR ?_
   with_reducible refine (attr_sign.calls ((rd_T33 l0 x8_1).f0) t141 _ A5.out).mono ?_
   rintro e w' ⟨rfl, ⟨nd, rfl⟩⟩
   refine ⟨_, rfl, ?_⟩
   refine hK.out _ _ ⟨(blk_cell BK140.out 0).trans rfl, (blk_cell BK140.out 1).trans rfl, (blk_cell BK140.out 2).trans rfl⟩ (fun hHeld => ?_)
   clear hK K
   refine norm_ (a' := ?_) ?_ ?_
   rotate_left
   ·
    show Act.put _ (some 17) _ = _
    simp only [Act.put, List.setIfInBounds_toArray, List.set_cons_zero, List.set_cons_succ, i64_w, i32_w]; rfl
   refine purA 6 (some 18) (bA 14 511) HT_ ?_
   refine one_ (i := 9) (N := some 21) (bA 14 1023) rfl rfl (one_of HT_.out (by kernel_rfl)) (by decide) (fun K hK => ?_)
   refine goes_ Tryz.func99 (by kernel_rfl) rfl #[.string ((rd_T33 l0 x8_1).f2)] (by rfl) rfl rfl lR ?_
   with_reducible refine (attr_Quote.calls ((rd_T33 l0 x8_1).f2) t142 _ A7.out).mono ?_
   rintro e w14 ⟨rfl, hb⟩
   refine ⟨_, rfl, ?_⟩
   have n0_ := Aside0.mk (Kd.R_below (by (with_reducible repeat (first | apply Kd.R_alloc | apply Kd.R_drewN | apply Kd.R_drew)); exact HO_3.out) hb)
   have n1_ := Aside0.mk (blk_below (g := gb140) (o := .cells #[.int .i64 ((rd_T33 l0 x8_1).f0), .string ((rd_T33 l0 x8_1).f1), .string ((rd_T33 l0 x8_1).f2)] 33 (0, 0)) bK hb); have n2_ := Aside0.mk (below_step bO hb); clear HO_3; clear BK140; clear HB; have HO_3 := n0_; have BK140 := n1_; have HB := n2_; clear n0_ n1_ n2_; (try clear hb); (try clear hb2); (try clear hk); (try clear hi)
   refine hK.out _ _ ⟨(blk_cell BK140.out 0).trans rfl, (blk_cell BK140.out 1).trans rfl, (blk_cell BK140.out 2).trans rfl⟩ (fun hHeld => ?_)
   clear hK K
   refine norm_ (a' := ?_) ?_ ?_
   rotate_left
   ·
    show Act.put _ (some 21) _ = _
    simp only [Act.put, List.setIfInBounds_toArray, List.set_cons_zero, List.set_cons_succ, i64_w, i32_w]; rfl
   refine purA 10 (some 22) (bA 14 2047) HT_ ?_
   refine one_ (i := 11) (N := some 23) (bA 14 4095) rfl rfl (one_of HT_.out (by kernel_rfl)) (by decide) (fun K hK => ?_)
   refine value_ (w1 := ?_) (v := ?_) (by rfl) rfl ?_ ?_
   rotate_left 2
   ·
    go_simp
    constructor
    · rfl
    rfl
   refine hK.out _ _ ⟨(blk_cell (blk_alloc BK140.out _) 0).trans rfl, (blk_cell (blk_alloc BK140.out _) 1).trans rfl, (blk_cell (blk_alloc BK140.out _) 2).trans rfl⟩ (fun hHeld => ?_)
   clear hK K
   refine norm_ (a' := ?_) ?_ ?_
   rotate_left
   ·
    show Act.put _ (some 23) _ = _
    simp only [Act.put, List.setIfInBounds_toArray, List.set_cons_zero, List.set_cons_succ, i64_w, i32_w]; rfl
   refine one_ (i := 12) (N := some 24) (bA 14 8191) rfl rfl (one_of HT_.out (by kernel_rfl)) (by decide) (fun K hK => ?_)
   refine Kd.R_append_step Kd.string (w0 := w) w.heap.size (by rfl) (.tmp 12) (.tmp 23) 29 9 (.string ⟨#[]⟩) 16 rfl Tryz.underlying29 info9 rfl (by decide) (by omega) u3 x3_1 ((((rd_T33 l0 x8_1).f1) ++ t141) ++ t142) [.string ((((rd_T33 l0 x8_1).f1) ++ t141) ++ t142)] (fun _ => True) (fun _ => False) rfl rfl ?aP (fun _ hk => hk.elim) ?aF ?aO ?aB ?aS ?aL ?_
   (case aP => exact rfl)
   (case aB => exact bO)
   (case aF => exact (fun _ _ => trivial))
   (case aO => exact (by (with_reducible repeat (first | apply Kd.R_alloc | apply Kd.R_drewN | apply Kd.R_drew)); exact HO_3.out))
   (case aS => exact (below_size bO))
   (case aL => have := LMc9.out; omega)
   intro v144 w15 ho hb hg hat; rw [← Ny143.out] at ho; have n0_ := Aside0.mk (blk_grown (g := gb140) (o := .cells #[.int .i64 ((rd_T33 l0 x8_1).f0), .string ((rd_T33 l0 x8_1).f1), .string ((rd_T33 l0 x8_1).f2)] 33 (0, 0)) bK hg (Kd.R_ne HO_3.out BK140.out (by decide))); have n1_ := Aside0.mk (hb); have n2_ := Aside0.mk (ho); clear BK140; clear HB; clear HO_3; have BK140 := n0_; have HB := n1_; have HO145 := n2_; clear n0_ n1_ n2_; clear ho hb hg hat
   refine hK.out _ _ ⟨(blk_cell BK140.out 0).trans rfl, (blk_cell BK140.out 1).trans rfl, (blk_cell BK140.out 2).trans rfl⟩ (fun hHeld => ?_)
   clear hK K
   refine norm_ (a' := ?_) ?_ ?_
   rotate_left
   ·
    show Act.put _ (some 24) _ = _
    simp only [Act.put, List.setIfInBounds_toArray, List.set_cons_zero, List.set_cons_succ, i64_w, i32_w]; rfl
   refine purA 13 (some 3) (bA 14 16383) HT_ ?_
   refine done_ (done_of HT_.out (by kernel_rfl)) ?_
   try go_wp2
   go_roundg k1
   case measure => have := HK1.out; omega
   case rel => exact ⟨(y143), (wrap64 (x8_1 + 1)), sR, H', ⟨by have := HK1.out; omega⟩, ⟨by (with_reducible repeat (first | apply Kd.R_alloc | apply Kd.R_drewN | apply Kd.R_drew)); exact HO145.out⟩, ⟨bO⟩⟩
def policy_line.j0 : Nat → ByteArray → Bool → Int → ByteArray → List (S33) → List ByteArray → Option (ByteArray)
  | 0, _, _, _, _, _, _ => none
  | k + 1, x3, x148000, x148001, x148002, x148003, x148004 => (policy_Kind.f x148001).bind fun t148 => (if 1 + t148.size ≤ 9223372036854775807 then (if ((⟨#[32]⟩ : ByteArray) ++ t148).size + 4 ≤ 9223372036854775807 then (if (((⟨#[32]⟩ : ByteArray) ++ t148) ++ (⟨#[32, 116, 111, 32]⟩ : ByteArray)).size + x148002.size ≤ 9223372036854775807 then (if x3.size + ((((⟨#[32]⟩ : ByteArray) ++ t148) ++ (⟨#[32, 116, 111, 32]⟩ : ByteArray)) ++ x148002).size ≤ 9223372036854775807 then (if (x148003.length : Int) > 0 then ((attr_MatchText.f k x148003).bind fun t149 => (if 7 + t149.size ≤ 9223372036854775807 then (if (x3 ++ ((((⟨#[32]⟩ : ByteArray) ++ t148) ++ (⟨#[32, 116, 111, 32]⟩ : ByteArray)) ++ x148002)).size + ((⟨#[32, 119, 104, 101, 114, 101, 32]⟩ : ByteArray) ++ t149).size ≤ 9223372036854775807 then (if (x148004.length : Int) > 0 then ((strings_Join.f x148004 (⟨#[44, 32]⟩ : ByteArray)).bind fun t150 => (if 6 + t150.size ≤ 9223372036854775807 then (if ((x3 ++ ((((⟨#[32]⟩ : ByteArray) ++ t148) ++ (⟨#[32, 116, 111, 32]⟩ : ByteArray)) ++ x148002)) ++ ((⟨#[32, 119, 104, 101, 114, 101, 32]⟩ : ByteArray) ++ t149)).size + ((⟨#[32, 104, 105, 100, 101, 32]⟩ : ByteArray) ++ t150).size ≤ 9223372036854775807 then (some (((x3 ++ ((((⟨#[32]⟩ : ByteArray) ++ t148) ++ (⟨#[32, 116, 111, 32]⟩ : ByteArray)) ++ x148002)) ++ ((⟨#[32, 119, 104, 101, 114, 101, 32]⟩ : ByteArray) ++ t149)) ++ ((⟨#[32, 104, 105, 100, 101, 32]⟩ : ByteArray) ++ t150))) else (none)) else (none))) else (some ((x3 ++ ((((⟨#[32]⟩ : ByteArray) ++ t148) ++ (⟨#[32, 116, 111, 32]⟩ : ByteArray)) ++ x148002)) ++ ((⟨#[32, 119, 104, 101, 114, 101, 32]⟩ : ByteArray) ++ t149)))) else (none)) else (none))) else (if (x148004.length : Int) > 0 then ((strings_Join.f x148004 (⟨#[44, 32]⟩ : ByteArray)).bind fun t151 => (if 6 + t151.size ≤ 9223372036854775807 then (if (x3 ++ ((((⟨#[32]⟩ : ByteArray) ++ t148) ++ (⟨#[32, 116, 111, 32]⟩ : ByteArray)) ++ x148002)).size + ((⟨#[32, 104, 105, 100, 101, 32]⟩ : ByteArray) ++ t151).size ≤ 9223372036854775807 then (some ((x3 ++ ((((⟨#[32]⟩ : ByteArray) ++ t148) ++ (⟨#[32, 116, 111, 32]⟩ : ByteArray)) ++ x148002)) ++ ((⟨#[32, 104, 105, 100, 101, 32]⟩ : ByteArray) ++ t151))) else (none)) else (none))) else (some (x3 ++ ((((⟨#[32]⟩ : ByteArray) ++ t148) ++ (⟨#[32, 116, 111, 32]⟩ : ByteArray)) ++ x148002))))) else (none)) else (none)) else (none)) else (none))
def policy_line.f (k : Nat) (a0_0 : Bool) (a0_1 : Int) (a0_2 : ByteArray) (l0_3 : List (S33)) (l0_4 : List ByteArray) : Option (ByteArray) := if a0_0 = true then (policy_line.j0 k (⟨#[100, 101, 110, 121]⟩ : ByteArray) a0_0 a0_1 a0_2 l0_3 l0_4) else (policy_line.j0 k (⟨#[97, 108, 108, 111, 119]⟩ : ByteArray) a0_0 a0_1 a0_2 l0_3 l0_4)
set_option maxHeartbeats 8000000 in
set_option maxRecDepth 100000 in
theorem policy_line.calls (k : Nat) (a0_0 : Bool) (a0_1 : Int) (a0_2 : ByteArray) (A0_3 : Option Addr) (c0_3 : Nat) (l0_3 : List (S33)) (A0_4 : Option Addr) (c0_4 : Nat) (l0_4 : List ByteArray) (r : ByteArray) (w : World) (hr0_3 : Kd.C k33 w A0_3 l0_3.length l0_3) (hc0_3 : l0_3.length ≤ c0_3) (hr0_4 : Kd.C Kd.string w A0_4 l0_4.length l0_4) (hc0_4 : l0_4.length ≤ c0_4) (h : policy_line.f k a0_0 a0_1 a0_2 l0_3 l0_4 = some r) :
  Calls Tryz.prog 39 #[.agg #[.bool a0_0, .int .i64 a0_1, .string a0_2, .slice A0_3 l0_3.length c0_3, .slice A0_4 l0_4.length c0_4]] w fun e w' => e = .returned (.string r) ∧ Below w.heap.size w w' := by
 have hu46 := Tryz.underlying46; have HR0_3 := Aside0.mk hr0_3; have HC0_3 := Aside0.mk hc0_3; clear hr0_3 hc0_3; have HR0_4 := Aside0.mk hr0_4; have HC0_4 := Aside0.mk hc0_4; clear hr0_4 hc0_4; have HB := Aside0.mk (Below.refl w.heap.size w)
 have H : (if a0_0 = true then (policy_line.j0 k (⟨#[100, 101, 110, 121]⟩ : ByteArray) a0_0 a0_1 a0_2 l0_3 l0_4) else (policy_line.j0 k (⟨#[97, 108, 108, 111, 119]⟩ : ByteArray) a0_0 a0_1 a0_2 l0_3 l0_4)) = some r := h
 clear h; have HC2 := Aside0.mk H; clear H
 go_enter Tryz.func39, Tryz.ntmps39
 go_upto_if 5 with (first | ((with_reducible refine gate_dst (N := 1) rfl ?_); refine box_event ?hg (N := 1) ?hd (cs := #[.bool a0_0, .int .i64 a0_1, .string a0_2, .slice A0_3 l0_3.length c0_3, .slice A0_4 l0_4.length c0_4]) (t := 46) ?hr ?_; (case hd => rfl); (case hg => rfl); (case hr => first | (go_simp; done) | (go_simp; rfl)); intro gb147 hg w3 hbox hb; have n0_ := Aside0.mk (below_step bO hb); have n1_ := Aside0.mk (hbox); have n2_ := Aside0.mk ((by rw [hg]; exact (below_size bO) : w.heap.size ≤ gb147)); have n3_ := Aside0.mk ((by rw [hg]; exact (below_size bO) : w.heap.size ≤ gb147)); clear HB; have HB := n0_; have BK147 := n1_; have GW147 := n2_; have GE147 := n3_; clear n0_ n1_ n2_ n3_; clear hb hbox hg; have hcz4_0 : w3.cell? ⟨gb147, 0, none⟩ = some (.bool a0_0) := (blk_cell BK147.out 0).trans rfl; have hcz4_1 : w3.cell? ⟨gb147, 1, none⟩ = some (.int .i64 a0_1) := (blk_cell BK147.out 1).trans rfl; have hcz4_2 : w3.cell? ⟨gb147, 2, none⟩ = some (.string a0_2) := (blk_cell BK147.out 2).trans rfl; have hcz4_3 : w3.cell? ⟨gb147, 3, none⟩ = some (.slice A0_3 l0_3.length c0_3) := (blk_cell BK147.out 3).trans rfl; have hcz4_4 : w3.cell? ⟨gb147, 4, none⟩ = some (.slice A0_4 l0_4.length c0_4) := (blk_cell BK147.out 4).trans rfl; have hfz4_0 := blk_frozen BK147.out 0; have hfz4_1 := blk_frozen BK147.out 1; have hfz4_2 := blk_frozen BK147.out 2; have hfz4_3 := blk_frozen BK147.out 3; have hfz4_4 := blk_frozen BK147.out 4))
 repeat (go_quiet (first | ((with_reducible refine gate_dst (N := 1) rfl ?_); refine box_event ?hg (N := 1) ?hd (cs := #[.bool a0_0, .int .i64 a0_1, .string a0_2, .slice A0_3 l0_3.length c0_3, .slice A0_4 l0_4.length c0_4]) (t := 46) ?hr ?_; (case hd => rfl); (case hg => rfl); (case hr => first | (go_simp; done) | (go_simp; rfl)); intro gb147 hg w3 hbox hb; have n0_ := Aside0.mk (below_step bO hb); have n1_ := Aside0.mk (hbox); have n2_ := Aside0.mk ((by rw [hg]; exact (below_size bO) : w.heap.size ≤ gb147)); have n3_ := Aside0.mk ((by rw [hg]; exact (below_size bO) : w.heap.size ≤ gb147)); clear HB; have HB := n0_; have BK147 := n1_; have GW147 := n2_; have GE147 := n3_; clear n0_ n1_ n2_ n3_; clear hb hbox hg; have hcz4_0 : w3.cell? ⟨gb147, 0, none⟩ = some (.bool a0_0) := (blk_cell BK147.out 0).trans rfl; have hcz4_1 : w3.cell? ⟨gb147, 1, none⟩ = some (.int .i64 a0_1) := (blk_cell BK147.out 1).trans rfl; have hcz4_2 : w3.cell? ⟨gb147, 2, none⟩ = some (.string a0_2) := (blk_cell BK147.out 2).trans rfl; have hcz4_3 : w3.cell? ⟨gb147, 3, none⟩ = some (.slice A0_3 l0_3.length c0_3) := (blk_cell BK147.out 3).trans rfl; have hcz4_4 : w3.cell? ⟨gb147, 4, none⟩ = some (.slice A0_4 l0_4.length c0_4) := (blk_cell BK147.out 4).trans rfl; have hfz4_0 := blk_frozen BK147.out 0; have hfz4_1 := blk_frozen BK147.out 1; have hfz4_2 := blk_frozen BK147.out 2; have hfz4_3 := blk_frozen BK147.out 3; have hfz4_4 := blk_frozen BK147.out 4)); go_upto_if 5 with (first | ((with_reducible refine gate_dst (N := 1) rfl ?_); refine box_event ?hg (N := 1) ?hd (cs := #[.bool a0_0, .int .i64 a0_1, .string a0_2, .slice A0_3 l0_3.length c0_3, .slice A0_4 l0_4.length c0_4]) (t := 46) ?hr ?_; (case hd => rfl); (case hg => rfl); (case hr => first | (go_simp; done) | (go_simp; rfl)); intro gb147 hg w3 hbox hb; have n0_ := Aside0.mk (below_step bO hb); have n1_ := Aside0.mk (hbox); have n2_ := Aside0.mk ((by rw [hg]; exact (below_size bO) : w.heap.size ≤ gb147)); have n3_ := Aside0.mk ((by rw [hg]; exact (below_size bO) : w.heap.size ≤ gb147)); clear HB; have HB := n0_; have BK147 := n1_; have GW147 := n2_; have GE147 := n3_; clear n0_ n1_ n2_ n3_; clear hb hbox hg; have hcz4_0 : w3.cell? ⟨gb147, 0, none⟩ = some (.bool a0_0) := (blk_cell BK147.out 0).trans rfl; have hcz4_1 : w3.cell? ⟨gb147, 1, none⟩ = some (.int .i64 a0_1) := (blk_cell BK147.out 1).trans rfl; have hcz4_2 : w3.cell? ⟨gb147, 2, none⟩ = some (.string a0_2) := (blk_cell BK147.out 2).trans rfl; have hcz4_3 : w3.cell? ⟨gb147, 3, none⟩ = some (.slice A0_3 l0_3.length c0_3) := (blk_cell BK147.out 3).trans rfl; have hcz4_4 : w3.cell? ⟨gb147, 4, none⟩ = some (.slice A0_4 l0_4.length c0_4) := (blk_cell BK147.out 4).trans rfl; have hfz4_0 := blk_frozen BK147.out 0; have hfz4_1 := blk_frozen BK147.out 1; have hfz4_2 := blk_frozen BK147.out 2; have hfz4_3 := blk_frozen BK147.out 3; have hfz4_4 := blk_frozen BK147.out 4)))
 (try simp only [Act.put, List.setIfInBounds_toArray, List.set_cons_zero, List.set_cons_succ])
 go_cut [3] (fun v3 wc => ∃ (kq : Nat) (x3_1 : ByteArray), v3 = .string x3_1 ∧ Aside0 (policy_line.j0 kq x3_1 a0_0 a0_1 a0_2 l0_3 l0_4 = some r) ∧ Aside0 (kq ≤ k) ∧ Aside0 (wc.heap[gb147]? = some (.cells #[.bool a0_0, .int .i64 a0_1, .string a0_2, (.slice A0_3 l0_3.length c0_3), (.slice A0_4 l0_4.length c0_4)] 46 (0, 0))) ∧ Aside0 (Below w.heap.size w wc))
 case first =>
  have H := HC2.out; clear HC2; by_cases c5 : a0_0 = true
  ·
   subst c5
   have H1 : (policy_line.j0 k (⟨#[100, 101, 110, 121]⟩ : ByteArray) true a0_1 a0_2 l0_3 l0_4) = some r := by rw [if_pos rfl] at H; exact H
   clear H; have H := H1; clear H1; have H' := Aside0.mk H; clear H; go_wp2
   repeat (go_quiet (fail); try go_wp2)
   go_meet
   case rel => exact ⟨_, ((⟨#[100, 101, 110, 121]⟩ : ByteArray)), sR, H', ⟨by first | omega | exact Nat.le_refl _⟩, ⟨by (with_reducible repeat (first | refine blk_drewN ?_ _ | refine blk_drew ?_ | refine blk_alloc ?_ _)); exact BK147.out⟩, ⟨bO⟩⟩
  replace c5 := Bool.eq_false_iff.mpr c5
  subst c5
  have H1 : (policy_line.j0 k (⟨#[97, 108, 108, 111, 119]⟩ : ByteArray) false a0_1 a0_2 l0_3 l0_4) = some r := by rw [if_neg (show ¬ (false = true) by decide)] at H; exact H
  clear H; have H := H1; clear H1; have H' := Aside0.mk H; clear H; go_wp2
  repeat (go_quiet (fail); try go_wp2)
  go_meet
  case rel => exact ⟨_, ((⟨#[97, 108, 108, 111, 119]⟩ : ByteArray)), sR, H', ⟨by first | omega | exact Nat.le_refl _⟩, ⟨by (with_reducible repeat (first | refine blk_drewN ?_ _ | refine blk_drew ?_ | refine blk_alloc ?_ _)); exact BK147.out⟩, ⟨bO⟩⟩
 case rest =>
  clear HC2; (try clear p2); (try clear c3); (try clear c5); (try clear hcz4_0); (try clear hcz4_1); (try clear hcz4_2); (try clear hcz4_3); (try clear hcz4_4); (try clear hfz4_0); (try clear hfz4_1); (try clear hfz4_2); (try clear hfz4_3); (try clear hfz4_4)
  obtain ⟨kq, x3_1, rfl, HA, HJ1, BK147, HB⟩ := hcut
  cases kq with
  | zero => exact absurd HA.out (by simp [policy_line.j0])
  | succ kj1 =>
   have H := HA.out; clear HA
   simp only [policy_line.j0] at H
   replace H := Option.bind_eq_some_iff.mp H
   obtain ⟨t148, A60, H⟩ := H
   replace H : (if 1 + t148.size ≤ 9223372036854775807 then (if ((⟨#[32]⟩ : ByteArray) ++ t148).size + 4 ≤ 9223372036854775807 then (if (((⟨#[32]⟩ : ByteArray) ++ t148) ++ (⟨#[32, 116, 111, 32]⟩ : ByteArray)).size + a0_2.size ≤ 9223372036854775807 then (if x3_1.size + ((((⟨#[32]⟩ : ByteArray) ++ t148) ++ (⟨#[32, 116, 111, 32]⟩ : ByteArray)) ++ a0_2).size ≤ 9223372036854775807 then (if (l0_3.length : Int) > 0 then ((attr_MatchText.f kj1 l0_3).bind fun t149 => (if 7 + t149.size ≤ 9223372036854775807 then (if (x3_1 ++ ((((⟨#[32]⟩ : ByteArray) ++ t148) ++ (⟨#[32, 116, 111, 32]⟩ : ByteArray)) ++ a0_2)).size + ((⟨#[32, 119, 104, 101, 114, 101, 32]⟩ : ByteArray) ++ t149).size ≤ 9223372036854775807 then (if (l0_4.length : Int) > 0 then ((strings_Join.f l0_4 (⟨#[44, 32]⟩ : ByteArray)).bind fun t150 => (if 6 + t150.size ≤ 9223372036854775807 then (if ((x3_1 ++ ((((⟨#[32]⟩ : ByteArray) ++ t148) ++ (⟨#[32, 116, 111, 32]⟩ : ByteArray)) ++ a0_2)) ++ ((⟨#[32, 119, 104, 101, 114, 101, 32]⟩ : ByteArray) ++ t149)).size + ((⟨#[32, 104, 105, 100, 101, 32]⟩ : ByteArray) ++ t150).size ≤ 9223372036854775807 then (some (((x3_1 ++ ((((⟨#[32]⟩ : ByteArray) ++ t148) ++ (⟨#[32, 116, 111, 32]⟩ : ByteArray)) ++ a0_2)) ++ ((⟨#[32, 119, 104, 101, 114, 101, 32]⟩ : ByteArray) ++ t149)) ++ ((⟨#[32, 104, 105, 100, 101, 32]⟩ : ByteArray) ++ t150))) else (none)) else (none))) else (some ((x3_1 ++ ((((⟨#[32]⟩ : ByteArray) ++ t148) ++ (⟨#[32, 116, 111, 32]⟩ : ByteArray)) ++ a0_2)) ++ ((⟨#[32, 119, 104, 101, 114, 101, 32]⟩ : ByteArray) ++ t149)))) else (none)) else (none))) else (if (l0_4.length : Int) > 0 then ((strings_Join.f l0_4 (⟨#[44, 32]⟩ : ByteArray)).bind fun t151 => (if 6 + t151.size ≤ 9223372036854775807 then (if (x3_1 ++ ((((⟨#[32]⟩ : ByteArray) ++ t148) ++ (⟨#[32, 116, 111, 32]⟩ : ByteArray)) ++ a0_2)).size + ((⟨#[32, 104, 105, 100, 101, 32]⟩ : ByteArray) ++ t151).size ≤ 9223372036854775807 then (some ((x3_1 ++ ((((⟨#[32]⟩ : ByteArray) ++ t148) ++ (⟨#[32, 116, 111, 32]⟩ : ByteArray)) ++ a0_2)) ++ ((⟨#[32, 104, 105, 100, 101, 32]⟩ : ByteArray) ++ t151))) else (none)) else (none))) else (some (x3_1 ++ ((((⟨#[32]⟩ : ByteArray) ++ t148) ++ (⟨#[32, 116, 111, 32]⟩ : ByteArray)) ++ a0_2))))) else (none)) else (none)) else (none)) else (none)) = some r := H
   have A6 := Aside0.mk A60; clear A60; by_cases c7 : 1 + t148.size ≤ 9223372036854775807; rotate_left
   · rw [if_neg c7] at H; exact absurd H (by simp)
   rw [if_pos c7] at H; have c7b0 := eq_true c7
   have c7b1 : decide (1 + t148.size ≤ 9223372036854775807) = true := decide_eq_true c7
   try have c7b2 : (9223372036854775807 < 1 + t148.size) = False := eq_false (Nat.not_lt.2 c7)
   by_cases c8 : ((⟨#[32]⟩ : ByteArray) ++ t148).size + 4 ≤ 9223372036854775807; rotate_left
   · rw [if_neg c8] at H; exact absurd H (by simp)
   rw [if_pos c8] at H; have c8b0 := eq_true c8
   have c8b1 : decide (((⟨#[32]⟩ : ByteArray) ++ t148).size + 4 ≤ 9223372036854775807) = true := decide_eq_true c8
   try have c8b2 : (9223372036854775807 < ((⟨#[32]⟩ : ByteArray) ++ t148).size + 4) = False := eq_false (Nat.not_lt.2 c8)
   (try (have c8b3 := c8b2; simp only [ByteArray.size_append', ByteArray.size_mk', List.size_toArray, List.length_cons, List.length_nil, Nat.zero_add, Nat.reduceAdd] at c8b3))
   by_cases c9 : (((⟨#[32]⟩ : ByteArray) ++ t148) ++ (⟨#[32, 116, 111, 32]⟩ : ByteArray)).size + a0_2.size ≤ 9223372036854775807; rotate_left
   · rw [if_neg c9] at H; exact absurd H (by simp)
   rw [if_pos c9] at H; have c9b0 := eq_true c9
   have c9b1 : decide ((((⟨#[32]⟩ : ByteArray) ++ t148) ++ (⟨#[32, 116, 111, 32]⟩ : ByteArray)).size + a0_2.size ≤ 9223372036854775807) = true := decide_eq_true c9
   try have c9b2 : (9223372036854775807 < (((⟨#[32]⟩ : ByteArray) ++ t148) ++ (⟨#[32, 116, 111, 32]⟩ : ByteArray)).size + a0_2.size) = False := eq_false (Nat.not_lt.2 c9)
   (try (have c9b3 := c9b2; simp only [ByteArray.size_append', ByteArray.size_mk', List.size_toArray, List.length_cons, List.length_nil, Nat.zero_add, Nat.reduceAdd] at c9b3))
   by_cases c10 : x3_1.size + ((((⟨#[32]⟩ : ByteArray) ++ t148) ++ (⟨#[32, 116, 111, 32]⟩ : ByteArray)) ++ a0_2).size ≤ 9223372036854775807; rotate_left
   · rw [if_neg c10] at H; exact absurd H (by simp)
   rw [if_pos c10] at H; have c10b0 := eq_true c10
   have c10b1 : decide (x3_1.size + ((((⟨#[32]⟩ : ByteArray) ++ t148) ++ (⟨#[32, 116, 111, 32]⟩ : ByteArray)) ++ a0_2).size ≤ 9223372036854775807) = true := decide_eq_true c10
   try have c10b2 : (9223372036854775807 < x3_1.size + ((((⟨#[32]⟩ : ByteArray) ++ t148) ++ (⟨#[32, 116, 111, 32]⟩ : ByteArray)) ++ a0_2).size) = False := eq_false (Nat.not_lt.2 c10)
   (try (have c10b3 := c10b2; simp only [ByteArray.size_append', ByteArray.size_mk', List.size_toArray, List.length_cons, List.length_nil, Nat.zero_add, Nat.reduceAdd] at c10b3))
   by_cases c11 : (l0_3.length : Int) > 0; rotate_left
   ·
    rw [if_neg c11] at H
    have c11b0 : decide (0 < (l0_3.length : Int)) = false := decide_eq_false c11
    have c11b1 : decide (0 < l0_3.length) = false := decide_eq_false (by omega)
    clear c11; by_cases c26 : (l0_4.length : Int) > 0; rotate_left
    ·
     rw [if_neg c26] at H
     have c26b0 : decide (0 < (l0_4.length : Int)) = false := decide_eq_false c26
     have c26b1 : decide (0 < l0_4.length) = false := decide_eq_false (by omega)
     clear c26
     obtain rfl := Option.some.inj H
     have hcz32_0 : wc.cell? ⟨gb147, 0, none⟩ = some (.bool a0_0) := (blk_cell BK147.out 0).trans rfl
     have hcz32_1 : wc.cell? ⟨gb147, 1, none⟩ = some (.int .i64 a0_1) := (blk_cell BK147.out 1).trans rfl
     have hcz32_2 : wc.cell? ⟨gb147, 2, none⟩ = some (.string a0_2) := (blk_cell BK147.out 2).trans rfl
     have hcz32_3 : wc.cell? ⟨gb147, 3, none⟩ = some (.slice A0_3 l0_3.length c0_3) := (blk_cell BK147.out 3).trans rfl
     have hcz32_4 : wc.cell? ⟨gb147, 4, none⟩ = some (.slice A0_4 l0_4.length c0_4) := (blk_cell BK147.out 4).trans rfl
     have hfz32_0 := blk_frozen BK147.out 0; have hfz32_1 := blk_frozen BK147.out 1; have hfz32_2 := blk_frozen BK147.out 2; have hfz32_3 := blk_frozen BK147.out 3; have hfz32_4 := blk_frozen BK147.out 4
     go_wp2_with (first | (go_at_call 19; (with_reducible refine (policy_Kind.calls a0_1 t148 _ A6.out).mono ?_); rintro e w' ⟨rfl, ⟨nd, rfl⟩⟩; (try first | exact ⟨rfl, _, World.drewN_drewN _ _ _⟩ | exact ⟨rfl, _, Eq.trans (World.drewN_drewN _ _ _) (congrArg (World.drewN _) (Nat.add_assoc _ _ _))⟩)))
     repeat (go_quiet (first | (go_at_call 19; (with_reducible refine (policy_Kind.calls a0_1 t148 _ A6.out).mono ?_); rintro e w' ⟨rfl, ⟨nd, rfl⟩⟩; (try first | exact ⟨rfl, _, World.drewN_drewN _ _ _⟩ | exact ⟨rfl, _, Eq.trans (World.drewN_drewN _ _ _) (congrArg (World.drewN _) (Nat.add_assoc _ _ _))⟩))); try go_wp2_with (first | (go_at_call 19; (with_reducible refine (policy_Kind.calls a0_1 t148 _ A6.out).mono ?_); rintro e w' ⟨rfl, ⟨nd, rfl⟩⟩; (try first | exact ⟨rfl, _, World.drewN_drewN _ _ _⟩ | exact ⟨rfl, _, Eq.trans (World.drewN_drewN _ _ _) (congrArg (World.drewN _) (Nat.add_assoc _ _ _))⟩))))
     go_ret
     exact ⟨eR, bO⟩
    rw [if_pos c26] at H
    have c26b0 : decide (0 < (l0_4.length : Int)) = true := decide_eq_true c26
    have c26b1 : decide (0 < l0_4.length) = true := decide_eq_true (by omega)
    clear c26
    replace H := Option.bind_eq_some_iff.mp H
    obtain ⟨t151, A270, H⟩ := H
    replace H : (if 6 + t151.size ≤ 9223372036854775807 then (if (x3_1 ++ ((((⟨#[32]⟩ : ByteArray) ++ t148) ++ (⟨#[32, 116, 111, 32]⟩ : ByteArray)) ++ a0_2)).size + ((⟨#[32, 104, 105, 100, 101, 32]⟩ : ByteArray) ++ t151).size ≤ 9223372036854775807 then (some ((x3_1 ++ ((((⟨#[32]⟩ : ByteArray) ++ t148) ++ (⟨#[32, 116, 111, 32]⟩ : ByteArray)) ++ a0_2)) ++ ((⟨#[32, 104, 105, 100, 101, 32]⟩ : ByteArray) ++ t151))) else (none)) else (none)) = some r := H
    have A27 := Aside0.mk A270; clear A270; by_cases c28 : 6 + t151.size ≤ 9223372036854775807; rotate_left
    · rw [if_neg c28] at H; exact absurd H (by simp)
    rw [if_pos c28] at H; have c28b0 := eq_true c28
    have c28b1 : decide (6 + t151.size ≤ 9223372036854775807) = true := decide_eq_true c28
    try have c28b2 : (9223372036854775807 < 6 + t151.size) = False := eq_false (Nat.not_lt.2 c28)
    by_cases c29 : (x3_1 ++ ((((⟨#[32]⟩ : ByteArray) ++ t148) ++ (⟨#[32, 116, 111, 32]⟩ : ByteArray)) ++ a0_2)).size + ((⟨#[32, 104, 105, 100, 101, 32]⟩ : ByteArray) ++ t151).size ≤ 9223372036854775807; rotate_left
    · rw [if_neg c29] at H; exact absurd H (by simp)
    rw [if_pos c29] at H; have c29b0 := eq_true c29
    have c29b1 : decide ((x3_1 ++ ((((⟨#[32]⟩ : ByteArray) ++ t148) ++ (⟨#[32, 116, 111, 32]⟩ : ByteArray)) ++ a0_2)).size + ((⟨#[32, 104, 105, 100, 101, 32]⟩ : ByteArray) ++ t151).size ≤ 9223372036854775807) = true := decide_eq_true c29
    try have c29b2 : (9223372036854775807 < (x3_1 ++ ((((⟨#[32]⟩ : ByteArray) ++ t148) ++ (⟨#[32, 116, 111, 32]⟩ : ByteArray)) ++ a0_2)).size + ((⟨#[32, 104, 105, 100, 101, 32]⟩ : ByteArray) ++ t151).size) = False := eq_false (Nat.not_lt.2 c29)
    (try (have c29b3 := c29b2; simp only [ByteArray.size_append', ByteArray.size_mk', List.size_toArray, List.length_cons, List.length_nil, Nat.zero_add, Nat.reduceAdd] at c29b3))
    obtain rfl := Option.some.inj H
    have hcz30_0 : wc.cell? ⟨gb147, 0, none⟩ = some (.bool a0_0) := (blk_cell BK147.out 0).trans rfl
    have hcz30_1 : wc.cell? ⟨gb147, 1, none⟩ = some (.int .i64 a0_1) := (blk_cell BK147.out 1).trans rfl
    have hcz30_2 : wc.cell? ⟨gb147, 2, none⟩ = some (.string a0_2) := (blk_cell BK147.out 2).trans rfl
    have hcz30_3 : wc.cell? ⟨gb147, 3, none⟩ = some (.slice A0_3 l0_3.length c0_3) := (blk_cell BK147.out 3).trans rfl
    have hcz30_4 : wc.cell? ⟨gb147, 4, none⟩ = some (.slice A0_4 l0_4.length c0_4) := (blk_cell BK147.out 4).trans rfl
    have hfz30_0 := blk_frozen BK147.out 0; have hfz30_1 := blk_frozen BK147.out 1; have hfz30_2 := blk_frozen BK147.out 2; have hfz30_3 := blk_frozen BK147.out 3; have hfz30_4 := blk_frozen BK147.out 4
    go_wp2_with (first | (go_at_call 19; (with_reducible refine (policy_Kind.calls a0_1 t148 _ A6.out).mono ?_); rintro e w' ⟨rfl, ⟨nd, rfl⟩⟩; (try first | exact ⟨rfl, _, World.drewN_drewN _ _ _⟩ | exact ⟨rfl, _, Eq.trans (World.drewN_drewN _ _ _) (congrArg (World.drewN _) (Nat.add_assoc _ _ _))⟩)) | (go_at_call 72; (with_reducible refine (strings_Join.calls _ _ l0_4 (⟨#[44, 32]⟩ : ByteArray) t151 _ ?side1 ?side2 A27.out).mono ?_); (case side1 => repeat (first | exact (Kd.C_below HR0_4.out bO) | (with_reducible refine Kd.C_alloc ?_ _) | (with_reducible refine Kd.C_drewN ?_ _) | (with_reducible refine Kd.C_drew ?_))); (case side2 => exact HC0_4.out); rintro e w31 ⟨rfl, hb⟩; have n0_ := Aside0.mk (blk_below (g := gb147) (o := .cells #[.bool a0_0, .int .i64 a0_1, .string a0_2, .slice A0_3 l0_3.length c0_3, .slice A0_4 l0_4.length c0_4] 46 (0, 0)) bK hb); have n1_ := Aside0.mk (below_step bO hb); clear BK147; clear HB; have BK147 := n0_; have HB := n1_; clear n0_ n1_; (try clear hb); (try clear hb2); (try clear hk); (try clear hi)))
    repeat (go_quiet (first | (go_at_call 19; (with_reducible refine (policy_Kind.calls a0_1 t148 _ A6.out).mono ?_); rintro e w' ⟨rfl, ⟨nd, rfl⟩⟩; (try first | exact ⟨rfl, _, World.drewN_drewN _ _ _⟩ | exact ⟨rfl, _, Eq.trans (World.drewN_drewN _ _ _) (congrArg (World.drewN _) (Nat.add_assoc _ _ _))⟩)) | (go_at_call 72; (with_reducible refine (strings_Join.calls _ _ l0_4 (⟨#[44, 32]⟩ : ByteArray) t151 _ ?side1 ?side2 A27.out).mono ?_); (case side1 => repeat (first | exact (Kd.C_below HR0_4.out bO) | (with_reducible refine Kd.C_alloc ?_ _) | (with_reducible refine Kd.C_drewN ?_ _) | (with_reducible refine Kd.C_drew ?_))); (case side2 => exact HC0_4.out); rintro e w31 ⟨rfl, hb⟩; have n0_ := Aside0.mk (blk_below (g := gb147) (o := .cells #[.bool a0_0, .int .i64 a0_1, .string a0_2, .slice A0_3 l0_3.length c0_3, .slice A0_4 l0_4.length c0_4] 46 (0, 0)) bK hb); have n1_ := Aside0.mk (below_step bO hb); clear BK147; clear HB; have BK147 := n0_; have HB := n1_; clear n0_ n1_; (try clear hb); (try clear hb2); (try clear hk); (try clear hi))); try go_wp2_with (first | (go_at_call 19; (with_reducible refine (policy_Kind.calls a0_1 t148 _ A6.out).mono ?_); rintro e w' ⟨rfl, ⟨nd, rfl⟩⟩; (try first | exact ⟨rfl, _, World.drewN_drewN _ _ _⟩ | exact ⟨rfl, _, Eq.trans (World.drewN_drewN _ _ _) (congrArg (World.drewN _) (Nat.add_assoc _ _ _))⟩)) | (go_at_call 72; (with_reducible refine (strings_Join.calls _ _ l0_4 (⟨#[44, 32]⟩ : ByteArray) t151 _ ?side1 ?side2 A27.out).mono ?_); (case side1 => repeat (first | exact (Kd.C_below HR0_4.out bO) | (with_reducible refine Kd.C_alloc ?_ _) | (with_reducible refine Kd.C_drewN ?_ _) | (with_reducible refine Kd.C_drew ?_))); (case side2 => exact HC0_4.out); rintro e w31 ⟨rfl, hb⟩; have n0_ := Aside0.mk (blk_below (g := gb147) (o := .cells #[.bool a0_0, .int .i64 a0_1, .string a0_2, .slice A0_3 l0_3.length c0_3, .slice A0_4 l0_4.length c0_4] 46 (0, 0)) bK hb); have n1_ := Aside0.mk (below_step bO hb); clear BK147; clear HB; have BK147 := n0_; have HB := n1_; clear n0_ n1_; (try clear hb); (try clear hb2); (try clear hk); (try clear hi))))
    go_ret
    exact ⟨eR, bO⟩
   rw [if_pos c11] at H
   have c11b0 : decide (0 < (l0_3.length : Int)) = true := decide_eq_true c11
   have c11b1 : decide (0 < l0_3.length) = true := decide_eq_true (by omega)
   clear c11
   replace H := Option.bind_eq_some_iff.mp H
   obtain ⟨t149, A120, H⟩ := H
   replace H : (if 7 + t149.size ≤ 9223372036854775807 then (if (x3_1 ++ ((((⟨#[32]⟩ : ByteArray) ++ t148) ++ (⟨#[32, 116, 111, 32]⟩ : ByteArray)) ++ a0_2)).size + ((⟨#[32, 119, 104, 101, 114, 101, 32]⟩ : ByteArray) ++ t149).size ≤ 9223372036854775807 then (if (l0_4.length : Int) > 0 then ((strings_Join.f l0_4 (⟨#[44, 32]⟩ : ByteArray)).bind fun t150 => (if 6 + t150.size ≤ 9223372036854775807 then (if ((x3_1 ++ ((((⟨#[32]⟩ : ByteArray) ++ t148) ++ (⟨#[32, 116, 111, 32]⟩ : ByteArray)) ++ a0_2)) ++ ((⟨#[32, 119, 104, 101, 114, 101, 32]⟩ : ByteArray) ++ t149)).size + ((⟨#[32, 104, 105, 100, 101, 32]⟩ : ByteArray) ++ t150).size ≤ 9223372036854775807 then (some (((x3_1 ++ ((((⟨#[32]⟩ : ByteArray) ++ t148) ++ (⟨#[32, 116, 111, 32]⟩ : ByteArray)) ++ a0_2)) ++ ((⟨#[32, 119, 104, 101, 114, 101, 32]⟩ : ByteArray) ++ t149)) ++ ((⟨#[32, 104, 105, 100, 101, 32]⟩ : ByteArray) ++ t150))) else (none)) else (none))) else (some ((x3_1 ++ ((((⟨#[32]⟩ : ByteArray) ++ t148) ++ (⟨#[32, 116, 111, 32]⟩ : ByteArray)) ++ a0_2)) ++ ((⟨#[32, 119, 104, 101, 114, 101, 32]⟩ : ByteArray) ++ t149)))) else (none)) else (none)) = some r := H
   have A12 := Aside0.mk A120; clear A120; by_cases c13 : 7 + t149.size ≤ 9223372036854775807; rotate_left
   · rw [if_neg c13] at H; exact absurd H (by simp)
   rw [if_pos c13] at H; have c13b0 := eq_true c13
   have c13b1 : decide (7 + t149.size ≤ 9223372036854775807) = true := decide_eq_true c13
   try have c13b2 : (9223372036854775807 < 7 + t149.size) = False := eq_false (Nat.not_lt.2 c13)
   by_cases c14 : (x3_1 ++ ((((⟨#[32]⟩ : ByteArray) ++ t148) ++ (⟨#[32, 116, 111, 32]⟩ : ByteArray)) ++ a0_2)).size + ((⟨#[32, 119, 104, 101, 114, 101, 32]⟩ : ByteArray) ++ t149).size ≤ 9223372036854775807; rotate_left
   · rw [if_neg c14] at H; exact absurd H (by simp)
   rw [if_pos c14] at H; have c14b0 := eq_true c14
   have c14b1 : decide ((x3_1 ++ ((((⟨#[32]⟩ : ByteArray) ++ t148) ++ (⟨#[32, 116, 111, 32]⟩ : ByteArray)) ++ a0_2)).size + ((⟨#[32, 119, 104, 101, 114, 101, 32]⟩ : ByteArray) ++ t149).size ≤ 9223372036854775807) = true := decide_eq_true c14
   try have c14b2 : (9223372036854775807 < (x3_1 ++ ((((⟨#[32]⟩ : ByteArray) ++ t148) ++ (⟨#[32, 116, 111, 32]⟩ : ByteArray)) ++ a0_2)).size + ((⟨#[32, 119, 104, 101, 114, 101, 32]⟩ : ByteArray) ++ t149).size) = False := eq_false (Nat.not_lt.2 c14)
   (try (have c14b3 := c14b2; simp only [ByteArray.size_append', ByteArray.size_mk', List.size_toArray, List.length_cons, List.length_nil, Nat.zero_add, Nat.reduceAdd] at c14b3))
   by_cases c15 : (l0_4.length : Int) > 0; rotate_left
   ·
    rw [if_neg c15] at H
    have c15b0 : decide (0 < (l0_4.length : Int)) = false := decide_eq_false c15
    have c15b1 : decide (0 < l0_4.length) = false := decide_eq_false (by omega)
    clear c15
    obtain rfl := Option.some.inj H
    have hcz23_0 : wc.cell? ⟨gb147, 0, none⟩ = some (.bool a0_0) := (blk_cell BK147.out 0).trans rfl
    have hcz23_1 : wc.cell? ⟨gb147, 1, none⟩ = some (.int .i64 a0_1) := (blk_cell BK147.out 1).trans rfl
    have hcz23_2 : wc.cell? ⟨gb147, 2, none⟩ = some (.string a0_2) := (blk_cell BK147.out 2).trans rfl
    have hcz23_3 : wc.cell? ⟨gb147, 3, none⟩ = some (.slice A0_3 l0_3.length c0_3) := (blk_cell BK147.out 3).trans rfl
    have hcz23_4 : wc.cell? ⟨gb147, 4, none⟩ = some (.slice A0_4 l0_4.length c0_4) := (blk_cell BK147.out 4).trans rfl
    have hfz23_0 := blk_frozen BK147.out 0; have hfz23_1 := blk_frozen BK147.out 1; have hfz23_2 := blk_frozen BK147.out 2; have hfz23_3 := blk_frozen BK147.out 3; have hfz23_4 := blk_frozen BK147.out 4
    go_wp2_with (first | (go_at_call 19; (with_reducible refine (policy_Kind.calls a0_1 t148 _ A6.out).mono ?_); rintro e w' ⟨rfl, ⟨nd, rfl⟩⟩; (try first | exact ⟨rfl, _, World.drewN_drewN _ _ _⟩ | exact ⟨rfl, _, Eq.trans (World.drewN_drewN _ _ _) (congrArg (World.drewN _) (Nat.add_assoc _ _ _))⟩)) | (go_at_call 71; (with_reducible refine (attr_MatchText.calls kj1 _ _ l0_3 t149 _ ?side1 ?side2 A12.out).mono ?_); (case side1 => repeat (first | exact (Kd.C_below HR0_3.out bO) | (with_reducible refine Kd.C_alloc ?_ _) | (with_reducible refine Kd.C_drewN ?_ _) | (with_reducible refine Kd.C_drew ?_))); (case side2 => exact HC0_3.out); rintro e w24 ⟨rfl, hb⟩; have n0_ := Aside0.mk (blk_below (g := gb147) (o := .cells #[.bool a0_0, .int .i64 a0_1, .string a0_2, .slice A0_3 l0_3.length c0_3, .slice A0_4 l0_4.length c0_4] 46 (0, 0)) bK hb); have n1_ := Aside0.mk (below_step bO hb); clear BK147; clear HB; have BK147 := n0_; have HB := n1_; clear n0_ n1_; (try clear hb); (try clear hb2); (try clear hk); (try clear hi); have hcz25_0 : w24.cell? ⟨gb147, 0, none⟩ = some (.bool a0_0) := (blk_cell BK147.out 0).trans rfl; have hcz25_1 : w24.cell? ⟨gb147, 1, none⟩ = some (.int .i64 a0_1) := (blk_cell BK147.out 1).trans rfl; have hcz25_2 : w24.cell? ⟨gb147, 2, none⟩ = some (.string a0_2) := (blk_cell BK147.out 2).trans rfl; have hcz25_3 : w24.cell? ⟨gb147, 3, none⟩ = some (.slice A0_3 l0_3.length c0_3) := (blk_cell BK147.out 3).trans rfl; have hcz25_4 : w24.cell? ⟨gb147, 4, none⟩ = some (.slice A0_4 l0_4.length c0_4) := (blk_cell BK147.out 4).trans rfl; have hfz25_0 := blk_frozen BK147.out 0; have hfz25_1 := blk_frozen BK147.out 1; have hfz25_2 := blk_frozen BK147.out 2; have hfz25_3 := blk_frozen BK147.out 3; have hfz25_4 := blk_frozen BK147.out 4))
    repeat (go_quiet (first | (go_at_call 19; (with_reducible refine (policy_Kind.calls a0_1 t148 _ A6.out).mono ?_); rintro e w' ⟨rfl, ⟨nd, rfl⟩⟩; (try first | exact ⟨rfl, _, World.drewN_drewN _ _ _⟩ | exact ⟨rfl, _, Eq.trans (World.drewN_drewN _ _ _) (congrArg (World.drewN _) (Nat.add_assoc _ _ _))⟩)) | (go_at_call 71; (with_reducible refine (attr_MatchText.calls kj1 _ _ l0_3 t149 _ ?side1 ?side2 A12.out).mono ?_); (case side1 => repeat (first | exact (Kd.C_below HR0_3.out bO) | (with_reducible refine Kd.C_alloc ?_ _) | (with_reducible refine Kd.C_drewN ?_ _) | (with_reducible refine Kd.C_drew ?_))); (case side2 => exact HC0_3.out); rintro e w24 ⟨rfl, hb⟩; have n0_ := Aside0.mk (blk_below (g := gb147) (o := .cells #[.bool a0_0, .int .i64 a0_1, .string a0_2, .slice A0_3 l0_3.length c0_3, .slice A0_4 l0_4.length c0_4] 46 (0, 0)) bK hb); have n1_ := Aside0.mk (below_step bO hb); clear BK147; clear HB; have BK147 := n0_; have HB := n1_; clear n0_ n1_; (try clear hb); (try clear hb2); (try clear hk); (try clear hi); have hcz25_0 : w24.cell? ⟨gb147, 0, none⟩ = some (.bool a0_0) := (blk_cell BK147.out 0).trans rfl; have hcz25_1 : w24.cell? ⟨gb147, 1, none⟩ = some (.int .i64 a0_1) := (blk_cell BK147.out 1).trans rfl; have hcz25_2 : w24.cell? ⟨gb147, 2, none⟩ = some (.string a0_2) := (blk_cell BK147.out 2).trans rfl; have hcz25_3 : w24.cell? ⟨gb147, 3, none⟩ = some (.slice A0_3 l0_3.length c0_3) := (blk_cell BK147.out 3).trans rfl; have hcz25_4 : w24.cell? ⟨gb147, 4, none⟩ = some (.slice A0_4 l0_4.length c0_4) := (blk_cell BK147.out 4).trans rfl; have hfz25_0 := blk_frozen BK147.out 0; have hfz25_1 := blk_frozen BK147.out 1; have hfz25_2 := blk_frozen BK147.out 2; have hfz25_3 := blk_frozen BK147.out 3; have hfz25_4 := blk_frozen BK147.out 4)); try go_wp2_with (first | (go_at_call 19; (with_reducible refine (policy_Kind.calls a0_1 t148 _ A6.out).mono ?_); rintro e w' ⟨rfl, ⟨nd, rfl⟩⟩; (try first | exact ⟨rfl, _, World.drewN_drewN _ _ _⟩ | exact ⟨rfl, _, Eq.trans (World.drewN_drewN _ _ _) (congrArg (World.drewN _) (Nat.add_assoc _ _ _))⟩)) | (go_at_call 71; (with_reducible refine (attr_MatchText.calls kj1 _ _ l0_3 t149 _ ?side1 ?side2 A12.out).mono ?_); (case side1 => repeat (first | exact (Kd.C_below HR0_3.out bO) | (with_reducible refine Kd.C_alloc ?_ _) | (with_reducible refine Kd.C_drewN ?_ _) | (with_reducible refine Kd.C_drew ?_))); (case side2 => exact HC0_3.out); rintro e w24 ⟨rfl, hb⟩; have n0_ := Aside0.mk (blk_below (g := gb147) (o := .cells #[.bool a0_0, .int .i64 a0_1, .string a0_2, .slice A0_3 l0_3.length c0_3, .slice A0_4 l0_4.length c0_4] 46 (0, 0)) bK hb); have n1_ := Aside0.mk (below_step bO hb); clear BK147; clear HB; have BK147 := n0_; have HB := n1_; clear n0_ n1_; (try clear hb); (try clear hb2); (try clear hk); (try clear hi); have hcz25_0 : w24.cell? ⟨gb147, 0, none⟩ = some (.bool a0_0) := (blk_cell BK147.out 0).trans rfl; have hcz25_1 : w24.cell? ⟨gb147, 1, none⟩ = some (.int .i64 a0_1) := (blk_cell BK147.out 1).trans rfl; have hcz25_2 : w24.cell? ⟨gb147, 2, none⟩ = some (.string a0_2) := (blk_cell BK147.out 2).trans rfl; have hcz25_3 : w24.cell? ⟨gb147, 3, none⟩ = some (.slice A0_3 l0_3.length c0_3) := (blk_cell BK147.out 3).trans rfl; have hcz25_4 : w24.cell? ⟨gb147, 4, none⟩ = some (.slice A0_4 l0_4.length c0_4) := (blk_cell BK147.out 4).trans rfl; have hfz25_0 := blk_frozen BK147.out 0; have hfz25_1 := blk_frozen BK147.out 1; have hfz25_2 := blk_frozen BK147.out 2; have hfz25_3 := blk_frozen BK147.out 3; have hfz25_4 := blk_frozen BK147.out 4)))
    go_ret
    exact ⟨eR, bO⟩
   rw [if_pos c15] at H
   have c15b0 : decide (0 < (l0_4.length : Int)) = true := decide_eq_true c15
   have c15b1 : decide (0 < l0_4.length) = true := decide_eq_true (by omega)
   clear c15
   replace H := Option.bind_eq_some_iff.mp H
   obtain ⟨t150, A160, H⟩ := H
   replace H : (if 6 + t150.size ≤ 9223372036854775807 then (if ((x3_1 ++ ((((⟨#[32]⟩ : ByteArray) ++ t148) ++ (⟨#[32, 116, 111, 32]⟩ : ByteArray)) ++ a0_2)) ++ ((⟨#[32, 119, 104, 101, 114, 101, 32]⟩ : ByteArray) ++ t149)).size + ((⟨#[32, 104, 105, 100, 101, 32]⟩ : ByteArray) ++ t150).size ≤ 9223372036854775807 then (some (((x3_1 ++ ((((⟨#[32]⟩ : ByteArray) ++ t148) ++ (⟨#[32, 116, 111, 32]⟩ : ByteArray)) ++ a0_2)) ++ ((⟨#[32, 119, 104, 101, 114, 101, 32]⟩ : ByteArray) ++ t149)) ++ ((⟨#[32, 104, 105, 100, 101, 32]⟩ : ByteArray) ++ t150))) else (none)) else (none)) = some r := H
   have A16 := Aside0.mk A160; clear A160; by_cases c17 : 6 + t150.size ≤ 9223372036854775807; rotate_left
   · rw [if_neg c17] at H; exact absurd H (by simp)
   rw [if_pos c17] at H; have c17b0 := eq_true c17
   have c17b1 : decide (6 + t150.size ≤ 9223372036854775807) = true := decide_eq_true c17
   try have c17b2 : (9223372036854775807 < 6 + t150.size) = False := eq_false (Nat.not_lt.2 c17)
   by_cases c18 : ((x3_1 ++ ((((⟨#[32]⟩ : ByteArray) ++ t148) ++ (⟨#[32, 116, 111, 32]⟩ : ByteArray)) ++ a0_2)) ++ ((⟨#[32, 119, 104, 101, 114, 101, 32]⟩ : ByteArray) ++ t149)).size + ((⟨#[32, 104, 105, 100, 101, 32]⟩ : ByteArray) ++ t150).size ≤ 9223372036854775807; rotate_left
   · rw [if_neg c18] at H; exact absurd H (by simp)
   rw [if_pos c18] at H; have c18b0 := eq_true c18
   have c18b1 : decide (((x3_1 ++ ((((⟨#[32]⟩ : ByteArray) ++ t148) ++ (⟨#[32, 116, 111, 32]⟩ : ByteArray)) ++ a0_2)) ++ ((⟨#[32, 119, 104, 101, 114, 101, 32]⟩ : ByteArray) ++ t149)).size + ((⟨#[32, 104, 105, 100, 101, 32]⟩ : ByteArray) ++ t150).size ≤ 9223372036854775807) = true := decide_eq_true c18
   try have c18b2 : (9223372036854775807 < ((x3_1 ++ ((((⟨#[32]⟩ : ByteArray) ++ t148) ++ (⟨#[32, 116, 111, 32]⟩ : ByteArray)) ++ a0_2)) ++ ((⟨#[32, 119, 104, 101, 114, 101, 32]⟩ : ByteArray) ++ t149)).size + ((⟨#[32, 104, 105, 100, 101, 32]⟩ : ByteArray) ++ t150).size) = False := eq_false (Nat.not_lt.2 c18)
   (try (have c18b3 := c18b2; simp only [ByteArray.size_append', ByteArray.size_mk', List.size_toArray, List.length_cons, List.length_nil, Nat.zero_add, Nat.reduceAdd] at c18b3))
   obtain rfl := Option.some.inj H
   have hcz19_0 : wc.cell? ⟨gb147, 0, none⟩ = some (.bool a0_0) := (blk_cell BK147.out 0).trans rfl
   have hcz19_1 : wc.cell? ⟨gb147, 1, none⟩ = some (.int .i64 a0_1) := (blk_cell BK147.out 1).trans rfl
   have hcz19_2 : wc.cell? ⟨gb147, 2, none⟩ = some (.string a0_2) := (blk_cell BK147.out 2).trans rfl
   have hcz19_3 : wc.cell? ⟨gb147, 3, none⟩ = some (.slice A0_3 l0_3.length c0_3) := (blk_cell BK147.out 3).trans rfl
   have hcz19_4 : wc.cell? ⟨gb147, 4, none⟩ = some (.slice A0_4 l0_4.length c0_4) := (blk_cell BK147.out 4).trans rfl
   have hfz19_0 := blk_frozen BK147.out 0; have hfz19_1 := blk_frozen BK147.out 1; have hfz19_2 := blk_frozen BK147.out 2; have hfz19_3 := blk_frozen BK147.out 3; have hfz19_4 := blk_frozen BK147.out 4
   go_wp2_with (first | (go_at_call 19; (with_reducible refine (policy_Kind.calls a0_1 t148 _ A6.out).mono ?_); rintro e w' ⟨rfl, ⟨nd, rfl⟩⟩; (try first | exact ⟨rfl, _, World.drewN_drewN _ _ _⟩ | exact ⟨rfl, _, Eq.trans (World.drewN_drewN _ _ _) (congrArg (World.drewN _) (Nat.add_assoc _ _ _))⟩)) | (go_at_call 71; (with_reducible refine (attr_MatchText.calls kj1 _ _ l0_3 t149 _ ?side1 ?side2 A12.out).mono ?_); (case side1 => repeat (first | exact (Kd.C_below HR0_3.out bO) | (with_reducible refine Kd.C_alloc ?_ _) | (with_reducible refine Kd.C_drewN ?_ _) | (with_reducible refine Kd.C_drew ?_))); (case side2 => exact HC0_3.out); rintro e w20 ⟨rfl, hb⟩; have n0_ := Aside0.mk (blk_below (g := gb147) (o := .cells #[.bool a0_0, .int .i64 a0_1, .string a0_2, .slice A0_3 l0_3.length c0_3, .slice A0_4 l0_4.length c0_4] 46 (0, 0)) bK hb); have n1_ := Aside0.mk (below_step bO hb); clear BK147; clear HB; have BK147 := n0_; have HB := n1_; clear n0_ n1_; (try clear hb); (try clear hb2); (try clear hk); (try clear hi); have hcz21_0 : w20.cell? ⟨gb147, 0, none⟩ = some (.bool a0_0) := (blk_cell BK147.out 0).trans rfl; have hcz21_1 : w20.cell? ⟨gb147, 1, none⟩ = some (.int .i64 a0_1) := (blk_cell BK147.out 1).trans rfl; have hcz21_2 : w20.cell? ⟨gb147, 2, none⟩ = some (.string a0_2) := (blk_cell BK147.out 2).trans rfl; have hcz21_3 : w20.cell? ⟨gb147, 3, none⟩ = some (.slice A0_3 l0_3.length c0_3) := (blk_cell BK147.out 3).trans rfl; have hcz21_4 : w20.cell? ⟨gb147, 4, none⟩ = some (.slice A0_4 l0_4.length c0_4) := (blk_cell BK147.out 4).trans rfl; have hfz21_0 := blk_frozen BK147.out 0; have hfz21_1 := blk_frozen BK147.out 1; have hfz21_2 := blk_frozen BK147.out 2; have hfz21_3 := blk_frozen BK147.out 3; have hfz21_4 := blk_frozen BK147.out 4) | (go_at_call 72; (with_reducible refine (strings_Join.calls _ _ l0_4 (⟨#[44, 32]⟩ : ByteArray) t150 _ ?side1 ?side2 A16.out).mono ?_); (case side1 => repeat (first | exact (Kd.C_below HR0_4.out HB.out) | (with_reducible refine Kd.C_alloc ?_ _) | (with_reducible refine Kd.C_drewN ?_ _) | (with_reducible refine Kd.C_drew ?_))); (case side2 => exact HC0_4.out); rintro e w22 ⟨rfl, hb⟩; have n0_ := Aside0.mk (blk_below (g := gb147) (o := .cells #[.bool a0_0, .int .i64 a0_1, .string a0_2, .slice A0_3 l0_3.length c0_3, .slice A0_4 l0_4.length c0_4] 46 (0, 0)) bK hb); have n1_ := Aside0.mk (below_step bO hb); clear BK147; clear HB; have BK147 := n0_; have HB := n1_; clear n0_ n1_; (try clear hb); (try clear hb2); (try clear hk); (try clear hi)))
   repeat (go_quiet (first | (go_at_call 19; (with_reducible refine (policy_Kind.calls a0_1 t148 _ A6.out).mono ?_); rintro e w' ⟨rfl, ⟨nd, rfl⟩⟩; (try first | exact ⟨rfl, _, World.drewN_drewN _ _ _⟩ | exact ⟨rfl, _, Eq.trans (World.drewN_drewN _ _ _) (congrArg (World.drewN _) (Nat.add_assoc _ _ _))⟩)) | (go_at_call 71; (with_reducible refine (attr_MatchText.calls kj1 _ _ l0_3 t149 _ ?side1 ?side2 A12.out).mono ?_); (case side1 => repeat (first | exact (Kd.C_below HR0_3.out bO) | (with_reducible refine Kd.C_alloc ?_ _) | (with_reducible refine Kd.C_drewN ?_ _) | (with_reducible refine Kd.C_drew ?_))); (case side2 => exact HC0_3.out); rintro e w20 ⟨rfl, hb⟩; have n0_ := Aside0.mk (blk_below (g := gb147) (o := .cells #[.bool a0_0, .int .i64 a0_1, .string a0_2, .slice A0_3 l0_3.length c0_3, .slice A0_4 l0_4.length c0_4] 46 (0, 0)) bK hb); have n1_ := Aside0.mk (below_step bO hb); clear BK147; clear HB; have BK147 := n0_; have HB := n1_; clear n0_ n1_; (try clear hb); (try clear hb2); (try clear hk); (try clear hi); have hcz21_0 : w20.cell? ⟨gb147, 0, none⟩ = some (.bool a0_0) := (blk_cell BK147.out 0).trans rfl; have hcz21_1 : w20.cell? ⟨gb147, 1, none⟩ = some (.int .i64 a0_1) := (blk_cell BK147.out 1).trans rfl; have hcz21_2 : w20.cell? ⟨gb147, 2, none⟩ = some (.string a0_2) := (blk_cell BK147.out 2).trans rfl; have hcz21_3 : w20.cell? ⟨gb147, 3, none⟩ = some (.slice A0_3 l0_3.length c0_3) := (blk_cell BK147.out 3).trans rfl; have hcz21_4 : w20.cell? ⟨gb147, 4, none⟩ = some (.slice A0_4 l0_4.length c0_4) := (blk_cell BK147.out 4).trans rfl; have hfz21_0 := blk_frozen BK147.out 0; have hfz21_1 := blk_frozen BK147.out 1; have hfz21_2 := blk_frozen BK147.out 2; have hfz21_3 := blk_frozen BK147.out 3; have hfz21_4 := blk_frozen BK147.out 4) | (go_at_call 72; (with_reducible refine (strings_Join.calls _ _ l0_4 (⟨#[44, 32]⟩ : ByteArray) t150 _ ?side1 ?side2 A16.out).mono ?_); (case side1 => repeat (first | exact (Kd.C_below HR0_4.out HB.out) | (with_reducible refine Kd.C_alloc ?_ _) | (with_reducible refine Kd.C_drewN ?_ _) | (with_reducible refine Kd.C_drew ?_))); (case side2 => exact HC0_4.out); rintro e w22 ⟨rfl, hb⟩; have n0_ := Aside0.mk (blk_below (g := gb147) (o := .cells #[.bool a0_0, .int .i64 a0_1, .string a0_2, .slice A0_3 l0_3.length c0_3, .slice A0_4 l0_4.length c0_4] 46 (0, 0)) bK hb); have n1_ := Aside0.mk (below_step bO hb); clear BK147; clear HB; have BK147 := n0_; have HB := n1_; clear n0_ n1_; (try clear hb); (try clear hb2); (try clear hk); (try clear hi))); try go_wp2_with (first | (go_at_call 19; (with_reducible refine (policy_Kind.calls a0_1 t148 _ A6.out).mono ?_); rintro e w' ⟨rfl, ⟨nd, rfl⟩⟩; (try first | exact ⟨rfl, _, World.drewN_drewN _ _ _⟩ | exact ⟨rfl, _, Eq.trans (World.drewN_drewN _ _ _) (congrArg (World.drewN _) (Nat.add_assoc _ _ _))⟩)) | (go_at_call 71; (with_reducible refine (attr_MatchText.calls kj1 _ _ l0_3 t149 _ ?side1 ?side2 A12.out).mono ?_); (case side1 => repeat (first | exact (Kd.C_below HR0_3.out bO) | (with_reducible refine Kd.C_alloc ?_ _) | (with_reducible refine Kd.C_drewN ?_ _) | (with_reducible refine Kd.C_drew ?_))); (case side2 => exact HC0_3.out); rintro e w20 ⟨rfl, hb⟩; have n0_ := Aside0.mk (blk_below (g := gb147) (o := .cells #[.bool a0_0, .int .i64 a0_1, .string a0_2, .slice A0_3 l0_3.length c0_3, .slice A0_4 l0_4.length c0_4] 46 (0, 0)) bK hb); have n1_ := Aside0.mk (below_step bO hb); clear BK147; clear HB; have BK147 := n0_; have HB := n1_; clear n0_ n1_; (try clear hb); (try clear hb2); (try clear hk); (try clear hi); have hcz21_0 : w20.cell? ⟨gb147, 0, none⟩ = some (.bool a0_0) := (blk_cell BK147.out 0).trans rfl; have hcz21_1 : w20.cell? ⟨gb147, 1, none⟩ = some (.int .i64 a0_1) := (blk_cell BK147.out 1).trans rfl; have hcz21_2 : w20.cell? ⟨gb147, 2, none⟩ = some (.string a0_2) := (blk_cell BK147.out 2).trans rfl; have hcz21_3 : w20.cell? ⟨gb147, 3, none⟩ = some (.slice A0_3 l0_3.length c0_3) := (blk_cell BK147.out 3).trans rfl; have hcz21_4 : w20.cell? ⟨gb147, 4, none⟩ = some (.slice A0_4 l0_4.length c0_4) := (blk_cell BK147.out 4).trans rfl; have hfz21_0 := blk_frozen BK147.out 0; have hfz21_1 := blk_frozen BK147.out 1; have hfz21_2 := blk_frozen BK147.out 2; have hfz21_3 := blk_frozen BK147.out 3; have hfz21_4 := blk_frozen BK147.out 4) | (go_at_call 72; (with_reducible refine (strings_Join.calls _ _ l0_4 (⟨#[44, 32]⟩ : ByteArray) t150 _ ?side1 ?side2 A16.out).mono ?_); (case side1 => repeat (first | exact (Kd.C_below HR0_4.out HB.out) | (with_reducible refine Kd.C_alloc ?_ _) | (with_reducible refine Kd.C_drewN ?_ _) | (with_reducible refine Kd.C_drew ?_))); (case side2 => exact HC0_4.out); rintro e w22 ⟨rfl, hb⟩; have n0_ := Aside0.mk (blk_below (g := gb147) (o := .cells #[.bool a0_0, .int .i64 a0_1, .string a0_2, .slice A0_3 l0_3.length c0_3, .slice A0_4 l0_4.length c0_4] 46 (0, 0)) bK hb); have n1_ := Aside0.mk (below_step bO hb); clear BK147; clear HB; have BK147 := n0_; have HB := n1_; clear n0_ n1_; (try clear hb); (try clear hb2); (try clear hk); (try clear hi))))
   go_ret
   exact ⟨eR, bO⟩
def slices_Index_string_string.l0 : Nat → List ByteArray → ByteArray → Int → Int → Option (Int)
  | 0, _, _, _, _ => none
  | k + 1, x0, x1, x7, x8 => if x8 < x7 then (if 0 ≤ x8 then (if x8 < (x0.length : Int) then (if x1.toList = (rdOf ByteArray.empty x0 x8).toList then (some x8) else (slices_Index_string_string.l0 k x0 x1 x7 (wrap64 (x8 + 1)))) else (none)) else (none)) else (some (-1))
def slices_Index_string_string.f (k : Nat) (l0 : List ByteArray) (a1 : ByteArray) : Option (Int) := slices_Index_string_string.l0 k l0 a1 (l0.length : Int) 0
set_option maxHeartbeats 8000000 in
set_option maxRecDepth 100000 in
theorem slices_Index_string_string.calls (k : Nat) (A0 : Option Addr) (c0 : Nat) (l0 : List ByteArray) (a1 : ByteArray) (r : Int) (w : World) (hr0 : Kd.C Kd.string w A0 l0.length l0) (hc0 : l0.length ≤ c0) (h : slices_Index_string_string.f k l0 a1 = some r) :
  Calls Tryz.prog 76 #[.slice A0 l0.length c0, .string a1] w fun e w' => e = .returned (.int .i64 r) ∧ Drawn0 w w' := by
 have HR0 := Aside0.mk hr0; have HC0 := Aside0.mk hc0; clear hr0 hc0
 have H : (slices_Index_string_string.l0 k l0 a1 (l0.length : Int) 0) = some r := h
 clear h; have H' := Aside0.mk H; clear H
 go_enter Tryz.func76, Tryz.ntmps76
 go_wp2
 go_loopg [8] k (fun kq v8 w' => ∃ (x8_1 : Int), v8 = .int .i64 x8_1 ∧ Aside0 (slices_Index_string_string.l0 kq l0 a1 (l0.length : Int) x8_1 = some r) ∧ Aside0 (kq ≤ k) ∧ Drawn0 w w')
 case atStart => exact ⟨(0), sR, H', ⟨Nat.le_refl _⟩, dR⟩
 case round =>
  clear H'; (try clear p2)
  obtain ⟨x8_1, rfl, HA, HK1, ⟨m1, rfl⟩⟩ := hrel
  cases gk with
  | zero => exact absurd HA.out (by simp [slices_Index_string_string.l0])
  | succ k1 =>
   have H := HA.out; clear HA
   simp only [slices_Index_string_string.l0] at H
   by_cases c3 : x8_1 < (l0.length : Int); rotate_left
   ·
    rw [if_neg c3] at H
    have c3b0 : decide (x8_1 < (l0.length : Int)) = false := decide_eq_false c3
    clear c3
    obtain rfl := Option.some.inj H
    go_wp2; go_ret
    exact ⟨sR, dR⟩
   rw [if_pos c3] at H
   have c3b0 : decide (x8_1 < (l0.length : Int)) = true := decide_eq_true c3
   clear c3; by_cases c4 : 0 ≤ x8_1; rotate_left
   · rw [if_neg c4] at H; exact absurd H (by simp)
   rw [if_pos c4] at H
   have c4b0 : decide (0 ≤ x8_1) = true := decide_eq_true c4
   clear c4; by_cases c5 : x8_1 < (l0.length : Int); rotate_left
   · rw [if_neg c5] at H; exact absurd H (by simp)
   rw [if_pos c5] at H
   have c5b0 : decide (x8_1 < (l0.length : Int)) = true := decide_eq_true c5
   clear c5; by_cases c6 : a1.toList = (rdOf ByteArray.empty l0 x8_1).toList
   ·
    rw [if_pos c6] at H
    have c6b0 : (a1.toList == (rdOf ByteArray.empty l0 x8_1).toList) = true := beq_iff_eq.mpr c6
    have c6b1 : (a1.toList != (rdOf ByteArray.empty l0 x8_1).toList) = false := bne_eq_false_iff_eq.mpr c6
    clear c6
    obtain rfl := Option.some.inj H
    have p152 : 0 ≤ (x8_1 : Int) := of_decide_eq_true asm
    have q152 : x8_1 < (l0.length : Int) := of_decide_eq_true asm
    obtain ⟨ad152, e152, hx152_0⟩ := Kd.at_string HR0.out x8_1 p152 q152
    cases e152; replace p152 := eq_true p152; replace q152 := eq_true q152; go_wp2; go_ret
    exact ⟨sR, dR⟩
   rw [if_neg c6] at H
   have c6b0 : (a1.toList == (rdOf ByteArray.empty l0 x8_1).toList) = false := beq_eq_false_iff_ne.mpr c6
   have c6b1 : (a1.toList != (rdOf ByteArray.empty l0 x8_1).toList) = true := bne_iff_ne.mpr c6
   have H' := Aside0.mk H; clear H
   have p152 : 0 ≤ (x8_1 : Int) := of_decide_eq_true asm
   have q152 : x8_1 < (l0.length : Int) := of_decide_eq_true asm
   obtain ⟨ad152, e152, hx152_0⟩ := Kd.at_string HR0.out x8_1 p152 q152
   cases e152; replace p152 := eq_true p152; replace q152 := eq_true q152; go_wp2
   go_roundg k1
   case measure => have := HK1.out; omega
   case rel => exact ⟨(wrap64 (x8_1 + 1)), sR, H', ⟨by have := HK1.out; omega⟩, dR⟩
def stringslite_CutPrefix.f (a0 : ByteArray) (a1 : ByteArray) : Option (ByteArray × Bool) := (stringslite_HasPrefix.f a0 a1).bind fun t153 => (if t153 = true then (if 0 ≤ (a1.size : Int) then (if (a1.size : Int) ≤ (a0.size : Int) then (some (a0.extract ((a1.size : Int) : Int).toNat a0.size, true)) else (none)) else (none)) else (some (a0, false)))
set_option maxHeartbeats 8000000 in
set_option maxRecDepth 100000 in
theorem stringslite_CutPrefix.calls (a0 : ByteArray) (a1 : ByteArray) (r1 : ByteArray) (r2 : Bool) (w : World) (h : stringslite_CutPrefix.f a0 a1 = some (r1, r2)) :
  Calls Tryz.prog 105 #[.string a0, .string a1] w fun e w' => e = .returned (.tuple #[.string r1, .bool r2]) ∧ Drawn0 w w' := by
 have H : ((stringslite_HasPrefix.f a0 a1).bind fun t153 => (if t153 = true then (if 0 ≤ (a1.size : Int) then (if (a1.size : Int) ≤ (a0.size : Int) then (some (a0.extract ((a1.size : Int) : Int).toNat a0.size, true)) else (none)) else (none)) else (some (a0, false)))) = some (r1, r2) := h
 clear h
 replace H := Option.bind_eq_some_iff.mp H
 obtain ⟨t153, A30, H⟩ := H
 replace H : (if t153 = true then (if 0 ≤ (a1.size : Int) then (if (a1.size : Int) ≤ (a0.size : Int) then (some (a0.extract ((a1.size : Int) : Int).toNat a0.size, true)) else (none)) else (none)) else (some (a0, false))) = some (r1, r2) := H
 have A3 := Aside0.mk A30; clear A30; by_cases c4 : t153 = true; rotate_left
 ·
  replace c4 := Bool.eq_false_iff.mpr c4
  subst c4
  have H1 : (some (a0, false)) = some (r1, r2) := by rw [if_neg (show ¬ (false = true) by decide)] at H; exact H
  clear H; have H := H1; clear H1
  simp only [Option.some.injEq, Prod.mk.injEq] at H
  obtain ⟨rfl, rfl⟩ := H
  go_enter Tryz.func105, Tryz.ntmps105
  go_wp2_with (first | ((with_reducible refine gate_callee (f := 138) rfl ?_); refine goesL_ (some 8) rfl rfl Tryz.func138 (by kernel_rfl) rfl #[.string a0, .string a1] rfl lR ?_; (with_reducible refine (stringslite_HasPrefix.calls a0 a1 false _ A3.out).mono ?_); rintro e w' ⟨rfl, ⟨nd, rfl⟩⟩; refine ⟨_, rfl, ?_⟩))
  go_ret2
  exact ⟨sR, dR⟩
 subst c4
 have H1 : (if 0 ≤ (a1.size : Int) then (if (a1.size : Int) ≤ (a0.size : Int) then (some (a0.extract ((a1.size : Int) : Int).toNat a0.size, true)) else (none)) else (none)) = some (r1, r2) := by rw [if_pos rfl] at H; exact H
 clear H; have H := H1; clear H1; by_cases c5 : 0 ≤ (a1.size : Int); rotate_left
 · rw [if_neg c5] at H; exact absurd H (by simp)
 rw [if_pos c5] at H; have c5b0 := eq_true c5
 have c5b1 : decide (0 ≤ (a1.size : Int)) = true := decide_eq_true c5
 clear c5; by_cases c6 : (a1.size : Int) ≤ (a0.size : Int); rotate_left
 · rw [if_neg c6] at H; exact absurd H (by simp)
 rw [if_pos c6] at H; have c6b0 := eq_true c6
 have c6b1 : decide ((a1.size : Int) ≤ (a0.size : Int)) = true := decide_eq_true c6
 clear c6
 simp only [Option.some.injEq, Prod.mk.injEq] at H
 obtain ⟨rfl, rfl⟩ := H
 go_enter Tryz.func105, Tryz.ntmps105
 go_wp2_with (first | ((with_reducible refine gate_callee (f := 138) rfl ?_); refine goesL_ (some 8) rfl rfl Tryz.func138 (by kernel_rfl) rfl #[.string a0, .string a1] rfl lR ?_; (with_reducible refine (stringslite_HasPrefix.calls a0 a1 true _ A3.out).mono ?_); rintro e w' ⟨rfl, ⟨nd, rfl⟩⟩; refine ⟨_, rfl, ?_⟩))
 go_ret2
 exact ⟨sR, dR⟩
def strings_CutPrefix.f (a0 : ByteArray) (a1 : ByteArray) : Option (ByteArray × Bool) := (stringslite_CutPrefix.f a0 a1).bind fun bt154 => (some (bt154.1, bt154.2))
set_option maxHeartbeats 8000000 in
set_option maxRecDepth 100000 in
theorem strings_CutPrefix.calls (a0 : ByteArray) (a1 : ByteArray) (r1 : ByteArray) (r2 : Bool) (w : World) (h : strings_CutPrefix.f a0 a1 = some (r1, r2)) :
  Calls Tryz.prog 77 #[.string a0, .string a1] w fun e w' => e = .returned (.tuple #[.string r1, .bool r2]) ∧ Drawn0 w w' := by
 have H : ((stringslite_CutPrefix.f a0 a1).bind fun bt154 => (some (bt154.1, bt154.2))) = some (r1, r2) := h
 clear h
 replace H := Option.bind_eq_some_iff.mp H
 obtain ⟨⟨t154, t155⟩, A30, H⟩ := H
 replace H : (some (t154, t155)) = some (r1, r2) := H
 have A3 := Aside0.mk A30; clear A30
 simp only [Option.some.injEq, Prod.mk.injEq] at H
 obtain ⟨rfl, rfl⟩ := H
 go_enter Tryz.func77, Tryz.ntmps77
 go_wp2_with (first | ((with_reducible refine gate_callee (f := 105) rfl ?_); refine goesL_ (some 8) rfl rfl Tryz.func105 (by kernel_rfl) rfl #[.string a0, .string a1] rfl lR ?_; (with_reducible refine (stringslite_CutPrefix.calls a0 a1 t154 t155 _ A3.out).mono ?_); rintro e w' ⟨rfl, ⟨nd, rfl⟩⟩; refine ⟨_, rfl, ?_⟩))
 go_ret2
 exact ⟨sR, dR⟩
end Go.Proofs.YtkedidjjhhjdbaaGreatDoor.Pr
