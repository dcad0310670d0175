import Derived.Test.YtkedidjjhhjdbaaGreatDoorWc0
import Derived.Test.YtkedidjjhhjdbaaGreatDoorWc5
import Derived.Test.YtkedidjjhhjdbaaGreatDoorWc12
import Derived.Test.YtkedidjjhhjdbaaGreatDoorWc28
import Derived.Test.YtkedidjjhhjdbaaGreatDoorWc29
namespace Go.Proofs.YtkedidjjhhjdbaaGreatDoor.Pr
open Go.RowKit Go.Proofs.YtkedidjjhhjdbaaGreatDoorW.PrintWords Go.Proofs.YtkedidjjhhjdbaaGreatDoorW.PrintLast Go.Proofs.YtkedidjjhhjdbaaGreatDoorW.PrintMore
attribute [local go_sem] max2_int min2_int max_two min_two max_three min_three max_four min_four strGtr strLeq strGeq
set_option linter.unusedVariables false
set_option linter.unusedSimpArgs false
mutual
def belfryref11_text.j0 : Nat → ByteArray → Bool → Int → ByteArray → List (S33) → List ByteArray → Option (ByteArray)
  | 0, _, _, _, _, _, _ => none
  | k + 1, x3, x447000, x447001, x447002, x447003, x447004 => (belfryref11_Kind.f x447001).bind fun t447 => (if x3.size + t447.size ≤ 9223372036854775807 then (if (x3 ++ t447).size + 4 ≤ 9223372036854775807 then (if ((x3 ++ t447) ++ (⟨#[32, 116, 111, 32]⟩ : ByteArray)).size + x447002.size ≤ 9223372036854775807 then (if (x447003.length : Int) > 0 then (if (((x3 ++ t447) ++ (⟨#[32, 116, 111, 32]⟩ : ByteArray)) ++ x447002).size + 7 ≤ 9223372036854775807 then ((belfryref04_MatchText.f k x447003).bind fun t448 => (if ((((x3 ++ t447) ++ (⟨#[32, 116, 111, 32]⟩ : ByteArray)) ++ x447002) ++ (⟨#[32, 119, 104, 101, 114, 101, 32]⟩ : ByteArray)).size + t448.size ≤ 9223372036854775807 then (belfryref11_text.j1 k (((((x3 ++ t447) ++ (⟨#[32, 116, 111, 32]⟩ : ByteArray)) ++ x447002) ++ (⟨#[32, 119, 104, 101, 114, 101, 32]⟩ : ByteArray)) ++ t448) x447000 x447001 x447002 x447003 x447004) else (none))) else (none)) else (belfryref11_text.j1 k (((x3 ++ t447) ++ (⟨#[32, 116, 111, 32]⟩ : ByteArray)) ++ x447002) x447000 x447001 x447002 x447003 x447004)) else (none)) else (none)) else (none))
def belfryref11_text.j1 : Nat → ByteArray → Bool → Int → ByteArray → List (S33) → List ByteArray → Option (ByteArray)
  | 0, _, _, _, _, _, _ => none
  | k + 1, x3, x447000, x447001, x447002, x447003, x447004 => belfryref11_text.l0 k x3 0 x447000 x447001 x447002 x447003 x447004
def belfryref11_text.l0 : Nat → ByteArray → Int → Bool → Int → ByteArray → List (S33) → List ByteArray → Option (ByteArray)
  | 0, _, _, _, _, _, _, _ => none
  | k + 1, x3, x4, x447000, x447001, x447002, x447003, x447004 => if x4 < (x447004.length : Int) then (if x4 = 0 then (if x3.size + 6 ≤ 9223372036854775807 then (if 0 ≤ x4 then (if (x3 ++ (⟨#[32, 104, 105, 100, 101, 32]⟩ : ByteArray)).size + (rdOf ByteArray.empty x447004 x4).size ≤ 9223372036854775807 then (belfryref11_text.l0 k ((x3 ++ (⟨#[32, 104, 105, 100, 101, 32]⟩ : ByteArray)) ++ (rdOf ByteArray.empty x447004 x4)) (wrap64 (x4 + 1)) x447000 x447001 x447002 x447003 x447004) else (none)) else (none)) else (none)) else (if x3.size + 2 ≤ 9223372036854775807 then (if 0 ≤ x4 then (if (x3 ++ (⟨#[44, 32]⟩ : ByteArray)).size + (rdOf ByteArray.empty x447004 x4).size ≤ 9223372036854775807 then (belfryref11_text.l0 k ((x3 ++ (⟨#[44, 32]⟩ : ByteArray)) ++ (rdOf ByteArray.empty x447004 x4)) (wrap64 (x4 + 1)) x447000 x447001 x447002 x447003 x447004) else (none)) else (none)) else (none))) else (some x3)
end
def belfryref11_text.f (k : Nat) (a0_0 : Bool) (a0_1 : Int) (a0_2 : ByteArray) (l0_3 : List (S33)) (l0_4 : List ByteArray) : Option (ByteArray) := if a0_0 = true then (belfryref11_text.j0 k (⟨#[100, 101, 110, 121, 32]⟩ : ByteArray) a0_0 a0_1 a0_2 l0_3 l0_4) else (belfryref11_text.j0 k (⟨#[97, 108, 108, 111, 119, 32]⟩ : ByteArray) a0_0 a0_1 a0_2 l0_3 l0_4)
def belfryref11_text.T4 : Bool × List (List Nat × List Nat) := (true, [([], []), ([], []), ([1], [1]), ([2], [2]), ([0, 3], [0, 3]), ([4], [4]), ([], []), ([6], [6]), ([5, 7], [5, 7]), ([8, 3, 0, 1, 2, 3, 4, 5, 6, 7, 8], [0, 8])])
def belfryref11_text.B4 : List Nat := [0, 0, 2, 6, 15, 31, 0, 64, 255, 511]
theorem belfryref11_text.tab4 : rtab .any (opsOf Tryz.f43 4) = belfryref11_text.T4 := by kernel_rfl
theorem belfryref11_text.bits4 : waitsOk belfryref11_text.T4.2 belfryref11_text.B4 = true := by kernel_rfl
set_option maxHeartbeats 8000000 in
set_option maxRecDepth 100000 in
theorem belfryref11_text.calls (k : Nat) (a0_0 : Bool) (a0_1 : Int) (a0_2 : ByteArray) (A0_3 : Option Addr) (c0_3 : Nat) (l0_3 : List (S33)) (A0_4 : Option Addr) (c0_4 : Nat) (l0_4 : List ByteArray) (r : ByteArray) (w : World) (hr0_3 : Kd.C k33 w A0_3 l0_3.length l0_3) (hc0_3 : l0_3.length ≤ c0_3) (hr0_4 : Kd.C Kd.string w A0_4 l0_4.length l0_4) (hc0_4 : l0_4.length ≤ c0_4) (h : belfryref11_text.f k a0_0 a0_1 a0_2 l0_3 l0_4 = some r) :
  Calls Tryz.prog 43 #[.agg #[.bool a0_0, .int .i64 a0_1, .string a0_2, .slice A0_3 l0_3.length c0_3, .slice A0_4 l0_4.length c0_4]] w fun e w' => e = .returned (.string r) ∧ Below w.heap.size w w' := by
 have hu46 := Tryz.underlying46; have HR0_3 := Aside0.mk hr0_3; have HC0_3 := Aside0.mk hc0_3; clear hr0_3 hc0_3; have HR0_4 := Aside0.mk hr0_4; have HC0_4 := Aside0.mk hc0_4; clear hr0_4 hc0_4; have HB := Aside0.mk (Below.refl w.heap.size w)
 have H : (if a0_0 = true then (belfryref11_text.j0 k (⟨#[100, 101, 110, 121, 32]⟩ : ByteArray) a0_0 a0_1 a0_2 l0_3 l0_4) else (belfryref11_text.j0 k (⟨#[97, 108, 108, 111, 119, 32]⟩ : ByteArray) a0_0 a0_1 a0_2 l0_3 l0_4)) = some r := h
 clear h; have HC2 := Aside0.mk H; clear H
 go_enter Tryz.func43, Tryz.ntmps43
 go_upto_if 6 with (first | ((with_reducible refine gate_dst (N := 1) rfl ?_); refine box_event ?hg (N := 1) ?hd (cs := #[.bool a0_0, .int .i64 a0_1, .string a0_2, .slice A0_3 l0_3.length c0_3, .slice A0_4 l0_4.length c0_4]) (t := 46) ?hr ?_; (case hd => rfl); (case hg => rfl); (case hr => first | (go_simp; done) | (go_simp; rfl)); intro gb446 hg w3 hbox hb; have n0_ := Aside0.mk (below_step bO hb); have n1_ := Aside0.mk (hbox); have n2_ := Aside0.mk ((by rw [hg]; exact (below_size bO) : w.heap.size ≤ gb446)); have n3_ := Aside0.mk ((by rw [hg]; exact (below_size bO) : w.heap.size ≤ gb446)); clear HB; have HB := n0_; have BK446 := n1_; have GW446 := n2_; have GE446 := n3_; clear n0_ n1_ n2_ n3_; clear hb hbox hg; have hcz4_0 : w3.cell? ⟨gb446, 0, none⟩ = some (.bool a0_0) := (blk_cell BK446.out 0).trans rfl; have hcz4_1 : w3.cell? ⟨gb446, 1, none⟩ = some (.int .i64 a0_1) := (blk_cell BK446.out 1).trans rfl; have hcz4_2 : w3.cell? ⟨gb446, 2, none⟩ = some (.string a0_2) := (blk_cell BK446.out 2).trans rfl; have hcz4_3 : w3.cell? ⟨gb446, 3, none⟩ = some (.slice A0_3 l0_3.length c0_3) := (blk_cell BK446.out 3).trans rfl; have hcz4_4 : w3.cell? ⟨gb446, 4, none⟩ = some (.slice A0_4 l0_4.length c0_4) := (blk_cell BK446.out 4).trans rfl; have hfz4_0 := blk_frozen BK446.out 0; have hfz4_1 := blk_frozen BK446.out 1; have hfz4_2 := blk_frozen BK446.out 2; have hfz4_3 := blk_frozen BK446.out 3; have hfz4_4 := blk_frozen BK446.out 4))
 (try simp only [Act.put, List.setIfInBounds_toArray, List.set_cons_zero, List.set_cons_succ])
 go_cut [3] (fun v3 wc => ∃ (kq : Nat) (x3_1 : ByteArray), v3 = .string x3_1 ∧ Aside0 (belfryref11_text.j0 kq x3_1 a0_0 a0_1 a0_2 l0_3 l0_4 = some r) ∧ Aside0 (kq ≤ k) ∧ Aside0 (wc.heap[gb446]? = some (.cells #[.bool a0_0, .int .i64 a0_1, .string a0_2, (.slice A0_3 l0_3.length c0_3), (.slice A0_4 l0_4.length c0_4)] 46 (0, 0))) ∧ Aside0 (Below w.heap.size w wc))
 case first =>
  have H := HC2.out; clear HC2; by_cases c5 : a0_0 = true
  ·
   subst c5
   have H1 : (belfryref11_text.j0 k (⟨#[100, 101, 110, 121, 32]⟩ : ByteArray) true a0_1 a0_2 l0_3 l0_4) = some r := by rw [if_pos rfl] at H; exact H
   clear H; have H := H1; clear H1; have H' := Aside0.mk H; clear H; go_wp2
   go_meet
   case rel => exact ⟨_, ((⟨#[100, 101, 110, 121, 32]⟩ : ByteArray)), sR, H', ⟨by first | omega | exact Nat.le_refl _⟩, ⟨by (with_reducible repeat (first | refine blk_drewN ?_ _ | refine blk_drew ?_ | refine blk_alloc ?_ _)); exact BK446.out⟩, ⟨bO⟩⟩
  replace c5 := Bool.eq_false_iff.mpr c5
  subst c5
  have H1 : (belfryref11_text.j0 k (⟨#[97, 108, 108, 111, 119, 32]⟩ : ByteArray) false a0_1 a0_2 l0_3 l0_4) = some r := by rw [if_neg (show ¬ (false = true) by decide)] at H; exact H
  clear H; have H := H1; clear H1; have H' := Aside0.mk H; clear H; go_wp2
  go_meet
  case rel => exact ⟨_, ((⟨#[97, 108, 108, 111, 119, 32]⟩ : ByteArray)), sR, H', ⟨by first | omega | exact Nat.le_refl _⟩, ⟨by (with_reducible repeat (first | refine blk_drewN ?_ _ | refine blk_drew ?_ | refine blk_alloc ?_ _)); exact BK446.out⟩, ⟨bO⟩⟩
 case rest =>
  clear HC2; (try clear p2); (try clear c4); (try clear c5); (try clear hcz4_0); (try clear hcz4_1); (try clear hcz4_2); (try clear hcz4_3); (try clear hcz4_4); (try clear hfz4_0); (try clear hfz4_1); (try clear hfz4_2); (try clear hfz4_3); (try clear hfz4_4)
  obtain ⟨kq, x3_1, rfl, HA, HJ1, BK446, HB⟩ := hcut
  cases kq with
  | zero => exact absurd HA.out (by simp [belfryref11_text.j0])
  | succ kj1 =>
   have H := HA.out; clear HA
   simp only [belfryref11_text.j0] at H
   replace H := Option.bind_eq_some_iff.mp H
   obtain ⟨t447, A60, H⟩ := H
   replace H : (if x3_1.size + t447.size ≤ 9223372036854775807 then (if (x3_1 ++ t447).size + 4 ≤ 9223372036854775807 then (if ((x3_1 ++ t447) ++ (⟨#[32, 116, 111, 32]⟩ : ByteArray)).size + a0_2.size ≤ 9223372036854775807 then (if (l0_3.length : Int) > 0 then (if (((x3_1 ++ t447) ++ (⟨#[32, 116, 111, 32]⟩ : ByteArray)) ++ a0_2).size + 7 ≤ 9223372036854775807 then ((belfryref04_MatchText.f kj1 l0_3).bind fun t448 => (if ((((x3_1 ++ t447) ++ (⟨#[32, 116, 111, 32]⟩ : ByteArray)) ++ a0_2) ++ (⟨#[32, 119, 104, 101, 114, 101, 32]⟩ : ByteArray)).size + t448.size ≤ 9223372036854775807 then (belfryref11_text.j1 kj1 (((((x3_1 ++ t447) ++ (⟨#[32, 116, 111, 32]⟩ : ByteArray)) ++ a0_2) ++ (⟨#[32, 119, 104, 101, 114, 101, 32]⟩ : ByteArray)) ++ t448) a0_0 a0_1 a0_2 l0_3 l0_4) else (none))) else (none)) else (belfryref11_text.j1 kj1 (((x3_1 ++ t447) ++ (⟨#[32, 116, 111, 32]⟩ : ByteArray)) ++ a0_2) a0_0 a0_1 a0_2 l0_3 l0_4)) else (none)) else (none)) else (none)) = some r := H
   have A6 := Aside0.mk A60; clear A60; by_cases c7 : x3_1.size + t447.size ≤ 9223372036854775807; rotate_left
   · rw [if_neg c7] at H; exact absurd H (by simp)
   rw [if_pos c7] at H; have c7b0 := eq_true c7
   have c7b1 : decide (x3_1.size + t447.size ≤ 9223372036854775807) = true := decide_eq_true c7
   try have c7b2 : (9223372036854775807 < x3_1.size + t447.size) = False := eq_false (Nat.not_lt.2 c7)
   by_cases c8 : (x3_1 ++ t447).size + 4 ≤ 9223372036854775807; rotate_left
   · rw [if_neg c8] at H; exact absurd H (by simp)
   rw [if_pos c8] at H; have c8b0 := eq_true c8
   have c8b1 : decide ((x3_1 ++ t447).size + 4 ≤ 9223372036854775807) = true := decide_eq_true c8
   try have c8b2 : (9223372036854775807 < (x3_1 ++ t447).size + 4) = False := eq_false (Nat.not_lt.2 c8)
   (try (have c8b3 := c8b2; simp only [ByteArray.size_append', ByteArray.size_mk', List.size_toArray, List.length_cons, List.length_nil, Nat.zero_add, Nat.reduceAdd] at c8b3))
   by_cases c9 : ((x3_1 ++ t447) ++ (⟨#[32, 116, 111, 32]⟩ : ByteArray)).size + a0_2.size ≤ 9223372036854775807; rotate_left
   · rw [if_neg c9] at H; exact absurd H (by simp)
   rw [if_pos c9] at H; have c9b0 := eq_true c9
   have c9b1 : decide (((x3_1 ++ t447) ++ (⟨#[32, 116, 111, 32]⟩ : ByteArray)).size + a0_2.size ≤ 9223372036854775807) = true := decide_eq_true c9
   try have c9b2 : (9223372036854775807 < ((x3_1 ++ t447) ++ (⟨#[32, 116, 111, 32]⟩ : ByteArray)).size + a0_2.size) = False := eq_false (Nat.not_lt.2 c9)
   (try (have c9b3 := c9b2; simp only [ByteArray.size_append', ByteArray.size_mk', List.size_toArray, List.length_cons, List.length_nil, Nat.zero_add, Nat.reduceAdd] at c9b3))
   have HC10 := Aside0.mk H; clear H
   try go_wp2
   have n0_ := Aside0.mk (blk_drew BK446.out); have n1_ := Aside0.mk (below_drew1 HB.out); clear BK446; clear HB; have BK446 := n0_; have HB := n1_; clear n0_ n1_
   refine start_ (n := 10) (S := fun w' => w'.cell? ⟨gb446, 0, none⟩ = some (.bool a0_0) ∧ w'.cell? ⟨gb446, 1, none⟩ = some (.int .i64 a0_1) ∧ w'.cell? ⟨gb446, 2, none⟩ = some (.string a0_2) ∧ w'.cell? ⟨gb446, 3, none⟩ = some (.slice A0_3 l0_3.length c0_3) ∧ w'.cell? ⟨gb446, 4, none⟩ = some (.slice A0_4 l0_4.length c0_4)) (ds := []) (bA 10 0) (by kernel_rfl) rfl rfl ⟨(blk_cell BK446.out 0).trans rfl, (blk_cell BK446.out 1).trans rfl, (blk_cell BK446.out 2).trans rfl, (blk_cell BK446.out 3).trans rfl, (blk_cell BK446.out 4).trans rfl⟩ (fun hHeld => ?_); refine with_tabW belfryref11_text.tab4 belfryref11_text.bits4 (fun HT_ HW_ => ?_)
   generalize wc.drew = w11 at BK446 HB hHeld ⊢
   refine purA 0 (some 7) (bA 10 1) HT_ ?_
   refine purA 1 (some 8) (bA 10 3) HT_ ?_
   refine purA 6 (some 13) (bA 10 67) HT_ ?_
   refine take_ (i := 2) (N := some 9) (v := ?_) (a' := ?_) (bA 10 71) rfl rfl (take_ofW HT_.out HW_.out (by kernel_rfl)) (fun _ _ _ h => h) (Or.inl ⟨by rfl, ?_⟩) hHeld ?_ ?_
   rotate_left
   ·
    rintro w' ⟨s0, s1, s2, s3, s4⟩
    go_simp; with_reducible rfl
   rotate_left
   · simp only [Act.put, List.setIfInBounds_toArray, List.set_cons_zero, List.set_cons_succ, i64_w, i32_w]; rfl
   refine take_ (i := 7) (N := some 14) (v := ?_) (a' := ?_) (bA 10 199) rfl rfl (take_ofW HT_.out HW_.out (by kernel_rfl)) (fun _ _ _ h => h) (Or.inl ⟨by rfl, ?_⟩) hHeld ?_ ?_
   rotate_left
   ·
    rintro w' ⟨s0, s1, s2, s3, s4⟩
    go_simp; with_reducible rfl
   rotate_left
   · simp only [Act.put, List.setIfInBounds_toArray, List.set_cons_zero, List.set_cons_succ, i64_w, i32_w]; rfl
   refine one_ (i := 3) (N := some 10) (bA 10 207) rfl rfl (one_of HT_.out (by kernel_rfl)) (by decide) (fun K hK => ?_)
   refine goes_ Tryz.func20 (by kernel_rfl) rfl #[.int .i64 a0_1] (by rfl) rfl rfl lR ?_
   with_reducible refine (belfryref11_Kind.calls a0_1 t447 _ A6.out).mono ?_
   rintro e w12 ⟨rfl, hb⟩
   refine ⟨_, rfl, ?_⟩
   have n0_ := Aside0.mk (blk_below (g := gb446) (o := .cells #[.bool a0_0, .int .i64 a0_1, .string a0_2, .slice A0_3 l0_3.length c0_3, .slice A0_4 l0_4.length c0_4] 46 (0, 0)) bK hb); have n1_ := Aside0.mk (below_step bO hb); clear BK446; clear HB; have BK446 := n0_; have HB := n1_; clear n0_ n1_; (try clear hb); (try clear hb2); (try clear hk); (try clear hi)
   refine hK.out _ _ ⟨(blk_cell BK446.out 0).trans rfl, (blk_cell BK446.out 1).trans rfl, (blk_cell BK446.out 2).trans rfl, (blk_cell BK446.out 3).trans rfl, (blk_cell BK446.out 4).trans rfl⟩ (fun hHeld => ?_)
   clear hK K
   refine norm_ (a' := ?_) ?_ ?_
   rotate_left
   ·
    show Act.put _ (some 10) _ = _
    simp only [Act.put, List.setIfInBounds_toArray, List.set_cons_zero, List.set_cons_succ, i64_w, i32_w]; rfl
   refine purA 4 (some 11) (bA 10 223) HT_ ?_
   refine purA 5 (some 12) (bA 10 255) HT_ ?_
   refine purA 8 (some 15) (bA 10 511) HT_ ?_
   refine purA 9 (some 3) (bA 10 1023) HT_ ?_
   refine done_ (done_of HT_.out (by kernel_rfl)) ?_
   have hcz13_0 : w12.cell? ⟨gb446, 0, none⟩ = some (.bool a0_0) := (blk_cell BK446.out 0).trans rfl
   have hcz13_1 : w12.cell? ⟨gb446, 1, none⟩ = some (.int .i64 a0_1) := (blk_cell BK446.out 1).trans rfl
   have hcz13_2 : w12.cell? ⟨gb446, 2, none⟩ = some (.string a0_2) := (blk_cell BK446.out 2).trans rfl
   have hcz13_3 : w12.cell? ⟨gb446, 3, none⟩ = some (.slice A0_3 l0_3.length c0_3) := (blk_cell BK446.out 3).trans rfl
   have hcz13_4 : w12.cell? ⟨gb446, 4, none⟩ = some (.slice A0_4 l0_4.length c0_4) := (blk_cell BK446.out 4).trans rfl
   have hfz13_0 := blk_frozen BK446.out 0; have hfz13_1 := blk_frozen BK446.out 1; have hfz13_2 := blk_frozen BK446.out 2; have hfz13_3 := blk_frozen BK446.out 3; have hfz13_4 := blk_frozen BK446.out 4
   go_upto_if 19 with (fail)
   go_cut [3] (fun v3 wc => ∃ (kq : Nat) (x3_9 : ByteArray), v3 = .string x3_9 ∧ Aside0 (belfryref11_text.j1 kq x3_9 a0_0 a0_1 a0_2 l0_3 l0_4 = some r) ∧ Aside0 (kq ≤ kj1) ∧ Aside0 (wc.heap[gb446]? = some (.cells #[.bool a0_0, .int .i64 a0_1, .string a0_2, (.slice A0_3 l0_3.length c0_3), (.slice A0_4 l0_4.length c0_4)] 46 (0, 0))) ∧ Aside0 (Below w.heap.size w wc))
   case first =>
    have H := HC10.out; clear HC10; by_cases c14 : (l0_3.length : Int) > 0; rotate_left
    ·
     rw [if_neg c14] at H
     have c14b0 : decide (0 < (l0_3.length : Int)) = false := decide_eq_false c14
     have c14b1 : decide (0 < l0_3.length) = false := decide_eq_false (by omega)
     clear c14
     (first | rw [c14b0] | rw [c14b1] | (simp only [i64_w, i32_w]; rw [c14b0]) | skip)
     have H' := Aside0.mk H; clear H; go_wp2
     go_meet
     case rel => exact ⟨_, (((x3_1 ++ t447) ++ (⟨#[32, 116, 111, 32]⟩ : ByteArray)) ++ a0_2), sR, H', ⟨by have := HJ1.out; first | omega | exact Nat.le_refl _⟩, ⟨by (with_reducible repeat (first | refine blk_drewN ?_ _ | refine blk_drew ?_ | refine blk_alloc ?_ _)); exact BK446.out⟩, ⟨bO⟩⟩
    rw [if_pos c14] at H
    have c14b0 : decide (0 < (l0_3.length : Int)) = true := decide_eq_true c14
    have c14b1 : decide (0 < l0_3.length) = true := decide_eq_true (by omega)
    clear c14
    (first | rw [c14b0] | rw [c14b1] | (simp only [i64_w, i32_w]; rw [c14b0]) | skip)
    by_cases c15 : (((x3_1 ++ t447) ++ (⟨#[32, 116, 111, 32]⟩ : ByteArray)) ++ a0_2).size + 7 ≤ 9223372036854775807; rotate_left
    · rw [if_neg c15] at H; exact absurd H (by simp)
    rw [if_pos c15] at H; have c15b0 := eq_true c15
    have c15b1 : decide ((((x3_1 ++ t447) ++ (⟨#[32, 116, 111, 32]⟩ : ByteArray)) ++ a0_2).size + 7 ≤ 9223372036854775807) = true := decide_eq_true c15
    try have c15b2 : (9223372036854775807 < (((x3_1 ++ t447) ++ (⟨#[32, 116, 111, 32]⟩ : ByteArray)) ++ a0_2).size + 7) = False := eq_false (Nat.not_lt.2 c15)
    (try (have c15b3 := c15b2; simp only [ByteArray.size_append', ByteArray.size_mk', List.size_toArray, List.length_cons, List.length_nil, Nat.zero_add, Nat.reduceAdd] at c15b3))
    replace H := Option.bind_eq_some_iff.mp H
    obtain ⟨t448, A160, H⟩ := H
    replace H : (if ((((x3_1 ++ t447) ++ (⟨#[32, 116, 111, 32]⟩ : ByteArray)) ++ a0_2) ++ (⟨#[32, 119, 104, 101, 114, 101, 32]⟩ : ByteArray)).size + t448.size ≤ 9223372036854775807 then (belfryref11_text.j1 kj1 (((((x3_1 ++ t447) ++ (⟨#[32, 116, 111, 32]⟩ : ByteArray)) ++ a0_2) ++ (⟨#[32, 119, 104, 101, 114, 101, 32]⟩ : ByteArray)) ++ t448) a0_0 a0_1 a0_2 l0_3 l0_4) else (none)) = some r := H
    have A16 := Aside0.mk A160; clear A160; by_cases c17 : ((((x3_1 ++ t447) ++ (⟨#[32, 116, 111, 32]⟩ : ByteArray)) ++ a0_2) ++ (⟨#[32, 119, 104, 101, 114, 101, 32]⟩ : ByteArray)).size + t448.size ≤ 9223372036854775807; rotate_left
    · rw [if_neg c17] at H; exact absurd H (by simp)
    rw [if_pos c17] at H; have c17b0 := eq_true c17
    have c17b1 : decide (((((x3_1 ++ t447) ++ (⟨#[32, 116, 111, 32]⟩ : ByteArray)) ++ a0_2) ++ (⟨#[32, 119, 104, 101, 114, 101, 32]⟩ : ByteArray)).size + t448.size ≤ 9223372036854775807) = true := decide_eq_true c17
    try have c17b2 : (9223372036854775807 < ((((x3_1 ++ t447) ++ (⟨#[32, 116, 111, 32]⟩ : ByteArray)) ++ a0_2) ++ (⟨#[32, 119, 104, 101, 114, 101, 32]⟩ : ByteArray)).size + t448.size) = False := eq_false (Nat.not_lt.2 c17)
    (try (have c17b3 := c17b2; simp only [ByteArray.size_append', ByteArray.size_mk', List.size_toArray, List.length_cons, List.length_nil, Nat.zero_add, Nat.reduceAdd] at c17b3))
    have H' := Aside0.mk H; clear H
    have hcz18_0 : w12.cell? ⟨gb446, 0, none⟩ = some (.bool a0_0) := (blk_cell BK446.out 0).trans rfl
    have hcz18_1 : w12.cell? ⟨gb446, 1, none⟩ = some (.int .i64 a0_1) := (blk_cell BK446.out 1).trans rfl
    have hcz18_2 : w12.cell? ⟨gb446, 2, none⟩ = some (.string a0_2) := (blk_cell BK446.out 2).trans rfl
    have hcz18_3 : w12.cell? ⟨gb446, 3, none⟩ = some (.slice A0_3 l0_3.length c0_3) := (blk_cell BK446.out 3).trans rfl
    have hcz18_4 : w12.cell? ⟨gb446, 4, none⟩ = some (.slice A0_4 l0_4.length c0_4) := (blk_cell BK446.out 4).trans rfl
    have hfz18_0 := blk_frozen BK446.out 0; have hfz18_1 := blk_frozen BK446.out 1; have hfz18_2 := blk_frozen BK446.out 2; have hfz18_3 := blk_frozen BK446.out 3; have hfz18_4 := blk_frozen BK446.out 4
    go_wp2_with (first | ((with_reducible refine gate_callee (f := 82) rfl ?_); refine goesL_ (some 24) rfl rfl Tryz.func82 (by kernel_rfl) rfl #[.slice A0_3 l0_3.length c0_3] rfl lR ?_; (with_reducible refine (belfryref04_MatchText.calls kj1 _ _ l0_3 t448 _ ?side1 ?side2 A16.out).mono ?_); (case side1 => repeat (first | exact (Kd.C_below HR0_3.out HB.out) | (with_reducible refine Kd.C_alloc ?_ _) | (with_reducible refine Kd.C_drewN ?_ _) | (with_reducible refine Kd.C_drew ?_))); (case side2 => exact HC0_3.out); rintro e w19 ⟨rfl, hb⟩; refine ⟨_, rfl, ?_⟩; have n0_ := Aside0.mk (blk_below (g := gb446) (o := .cells #[.bool a0_0, .int .i64 a0_1, .string a0_2, .slice A0_3 l0_3.length c0_3, .slice A0_4 l0_4.length c0_4] 46 (0, 0)) bK hb); have n1_ := Aside0.mk (below_step bO hb); clear BK446; clear HB; have BK446 := n0_; have HB := n1_; clear n0_ n1_; (try clear hb); (try clear hb2); (try clear hk); (try clear hi)))
    go_meet
    case rel => exact ⟨_, (((((x3_1 ++ t447) ++ (⟨#[32, 116, 111, 32]⟩ : ByteArray)) ++ a0_2) ++ (⟨#[32, 119, 104, 101, 114, 101, 32]⟩ : ByteArray)) ++ t448), sR, H', ⟨by have := HJ1.out; first | omega | exact Nat.le_refl _⟩, ⟨by (with_reducible repeat (first | refine blk_drewN ?_ _ | refine blk_drew ?_ | refine blk_alloc ?_ _)); exact BK446.out⟩, ⟨bO⟩⟩
   case rest =>
    clear HC10; (try clear c1); (try clear c2); (try clear p2); (try clear c4); (try clear c5); (try clear c7); (try clear c7b0); (try clear c7b1); (try clear c7b2); (try clear c8); (try clear c8b0); (try clear c8b1); (try clear c8b2); (try clear c9); (try clear c9b0); (try clear c9b1); (try clear c9b2); (try clear c14); (try clear c14b0); (try clear c14b1); (try clear c15); (try clear c15b0); (try clear c15b1); (try clear c15b2); (try clear c17); (try clear c17b0); (try clear c17b1); (try clear c17b2); (try clear hcz13_0); (try clear hcz13_1); (try clear hcz13_2); (try clear hcz13_3)
    (try clear hcz13_4); (try clear hcz18_0); (try clear hcz18_1); (try clear hcz18_2); (try clear hcz18_3); (try clear hcz18_4); (try clear hcz4_0); (try clear hcz4_1); (try clear hcz4_2); (try clear hcz4_3); (try clear hcz4_4); (try clear hfz13_0); (try clear hfz13_1); (try clear hfz13_2); (try clear hfz13_3); (try clear hfz13_4); (try clear hfz18_0); (try clear hfz18_1); (try clear hfz18_2); (try clear hfz18_3); (try clear hfz18_4); (try clear hfz4_0); (try clear hfz4_1); (try clear hfz4_2); (try clear hfz4_3); (try clear hfz4_4); (try clear p2)
    obtain ⟨kq, x3_9, rfl, HA, HJ9, BK446, HB⟩ := hcut
    cases kq with
    | zero => exact absurd HA.out (by simp [belfryref11_text.j1])
    | succ kj9 =>
     have H := HA.out; clear HA
     simp only [belfryref11_text.j1] at H
     have H' := Aside0.mk H; clear H; go_wp2
     go_loopg [3, 4] kj9 (fun kq v3 v4 w' => ∃ (x3_3 : ByteArray) (x4_3 : Int), v3 = .string x3_3 ∧ v4 = .int .i64 x4_3 ∧ Aside0 (belfryref11_text.l0 kq x3_3 x4_3 a0_0 a0_1 a0_2 l0_3 l0_4 = some r) ∧ Aside0 (kq ≤ kj9) ∧ Aside0 (w'.heap[gb446]? = some (.cells #[.bool a0_0, .int .i64 a0_1, .string a0_2, (.slice A0_3 l0_3.length c0_3), (.slice A0_4 l0_4.length c0_4)] 46 (0, 0))) ∧ Aside0 (Below w.heap.size w w'))
     case atStart => exact ⟨(x3_9), (0), sR, sR, H', ⟨Nat.le_refl _⟩, ⟨by (with_reducible repeat (first | refine blk_drewN ?_ _ | refine blk_drew ?_ | refine blk_alloc ?_ _)); exact BK446.out⟩, ⟨bO⟩⟩
     case round =>
      clear H'; (try clear c1); (try clear c2); (try clear p2); (try clear c4); (try clear c5); (try clear c7); (try clear c7b0); (try clear c7b1); (try clear c7b2); (try clear c8); (try clear c8b0); (try clear c8b1); (try clear c8b2); (try clear c9); (try clear c9b0); (try clear c9b1); (try clear c9b2); (try clear c14); (try clear c14b0); (try clear c14b1); (try clear c15); (try clear c15b0); (try clear c15b1); (try clear c15b2); (try clear c17); (try clear c17b0); (try clear c17b1); (try clear c17b2); (try clear hcz13_0); (try clear hcz13_1); (try clear hcz13_2); (try clear hcz13_3)
      (try clear hcz13_4); (try clear hcz18_0); (try clear hcz18_1); (try clear hcz18_2); (try clear hcz18_3); (try clear hcz18_4); (try clear hcz4_0); (try clear hcz4_1); (try clear hcz4_2); (try clear hcz4_3); (try clear hcz4_4); (try clear hfz13_0); (try clear hfz13_1); (try clear hfz13_2); (try clear hfz13_3); (try clear hfz13_4); (try clear hfz18_0); (try clear hfz18_1); (try clear hfz18_2); (try clear hfz18_3); (try clear hfz18_4); (try clear hfz4_0); (try clear hfz4_1); (try clear hfz4_2); (try clear hfz4_3); (try clear hfz4_4); (try clear p2)
      obtain ⟨x3_3, x4_3, rfl, rfl, HA, HK3, BK446, HB⟩ := hrel
      cases gk with
      | zero => exact absurd HA.out (by simp [belfryref11_text.l0])
      | succ k3 =>
       have H := HA.out; clear HA
       simp only [belfryref11_text.l0] at H
       by_cases c20 : x4_3 < (l0_4.length : Int); rotate_left
       ·
        rw [if_neg c20] at H
        have c20b0 : decide (x4_3 < (l0_4.length : Int)) = false := decide_eq_false c20
        clear c20
        obtain rfl := Option.some.inj H
        have hcz30_0 : wr.cell? ⟨gb446, 0, none⟩ = some (.bool a0_0) := (blk_cell BK446.out 0).trans rfl
        have hcz30_1 : wr.cell? ⟨gb446, 1, none⟩ = some (.int .i64 a0_1) := (blk_cell BK446.out 1).trans rfl
        have hcz30_2 : wr.cell? ⟨gb446, 2, none⟩ = some (.string a0_2) := (blk_cell BK446.out 2).trans rfl
        have hcz30_3 : wr.cell? ⟨gb446, 3, none⟩ = some (.slice A0_3 l0_3.length c0_3) := (blk_cell BK446.out 3).trans rfl
        have hcz30_4 : wr.cell? ⟨gb446, 4, none⟩ = some (.slice A0_4 l0_4.length c0_4) := (blk_cell BK446.out 4).trans rfl
        have hfz30_0 := blk_frozen BK446.out 0; have hfz30_1 := blk_frozen BK446.out 1; have hfz30_2 := blk_frozen BK446.out 2; have hfz30_3 := blk_frozen BK446.out 3; have hfz30_4 := blk_frozen BK446.out 4; go_wp2; go_ret
        exact ⟨eR, bO⟩
       rw [if_pos c20] at H
       have c20b0 : decide (x4_3 < (l0_4.length : Int)) = true := decide_eq_true c20
       clear c20; by_cases c21 : x4_3 = 0; rotate_left
       ·
        rw [if_neg c21] at H
        have c21b0 : (x4_3 == 0) = false := beq_eq_false_iff_ne.mpr c21
        have c21b1 : (x4_3 != 0) = true := bne_iff_ne.mpr c21
        by_cases c26 : x3_3.size + 2 ≤ 9223372036854775807; rotate_left
        · rw [if_neg c26] at H; exact absurd H (by simp)
        rw [if_pos c26] at H; have c26b0 := eq_true c26
        have c26b1 : decide (x3_3.size + 2 ≤ 9223372036854775807) = true := decide_eq_true c26
        try have c26b2 : (9223372036854775807 < x3_3.size + 2) = False := eq_false (Nat.not_lt.2 c26)
        by_cases c27 : 0 ≤ x4_3; rotate_left
        · rw [if_neg c27] at H; exact absurd H (by simp)
        rw [if_pos c27] at H
        have c27b0 : decide (0 ≤ x4_3) = true := decide_eq_true c27
        clear c27; by_cases c28 : (x3_3 ++ (⟨#[44, 32]⟩ : ByteArray)).size + (rdOf ByteArray.empty l0_4 x4_3).size ≤ 9223372036854775807; rotate_left
        · rw [if_neg c28] at H; exact absurd H (by simp)
        rw [if_pos c28] at H; have c28b0 := eq_true c28
        have c28b1 : decide ((x3_3 ++ (⟨#[44, 32]⟩ : ByteArray)).size + (rdOf ByteArray.empty l0_4 x4_3).size ≤ 9223372036854775807) = true := decide_eq_true c28
        try have c28b2 : (9223372036854775807 < (x3_3 ++ (⟨#[44, 32]⟩ : ByteArray)).size + (rdOf ByteArray.empty l0_4 x4_3).size) = False := eq_false (Nat.not_lt.2 c28)
        (try (have c28b3 := c28b2; simp only [ByteArray.size_append', ByteArray.size_mk', List.size_toArray, List.length_cons, List.length_nil, Nat.zero_add, Nat.reduceAdd] at c28b3))
        have H' := Aside0.mk H; clear H
        have hcz29_0 : wr.cell? ⟨gb446, 0, none⟩ = some (.bool a0_0) := (blk_cell BK446.out 0).trans rfl
        have hcz29_1 : wr.cell? ⟨gb446, 1, none⟩ = some (.int .i64 a0_1) := (blk_cell BK446.out 1).trans rfl
        have hcz29_2 : wr.cell? ⟨gb446, 2, none⟩ = some (.string a0_2) := (blk_cell BK446.out 2).trans rfl
        have hcz29_3 : wr.cell? ⟨gb446, 3, none⟩ = some (.slice A0_3 l0_3.length c0_3) := (blk_cell BK446.out 3).trans rfl
        have hcz29_4 : wr.cell? ⟨gb446, 4, none⟩ = some (.slice A0_4 l0_4.length c0_4) := (blk_cell BK446.out 4).trans rfl
        have hfz29_0 := blk_frozen BK446.out 0; have hfz29_1 := blk_frozen BK446.out 1; have hfz29_2 := blk_frozen BK446.out 2; have hfz29_3 := blk_frozen BK446.out 3; have hfz29_4 := blk_frozen BK446.out 4
        have p450 : 0 ≤ (x4_3 : Int) := of_decide_eq_true asm
        have q450 : x4_3 < (l0_4.length : Int) := of_decide_eq_true asm
        obtain ⟨ad450, e450, hx450_0⟩ := Kd.at_string HR0_4.out x4_3 p450 q450
        cases e450
        replace hx450_0 := bC HB hx450_0
        replace p450 := eq_true p450; replace q450 := eq_true q450; go_wp2
        go_roundg k3
        case measure => have := HJ1.out; have := HJ9.out; have := HK3.out; omega
        case rel => exact ⟨((x3_3 ++ (⟨#[44, 32]⟩ : ByteArray)) ++ (rdOf ByteArray.empty l0_4 x4_3)), (wrap64 (x4_3 + 1)), sR, sR, H', ⟨by have := HJ1.out; have := HJ9.out; have := HK3.out; omega⟩, ⟨by (with_reducible repeat (first | refine blk_drewN ?_ _ | refine blk_drew ?_ | refine blk_alloc ?_ _)); exact BK446.out⟩, ⟨bO⟩⟩
       rw [if_pos c21] at H
       have c21b0 : (x4_3 == 0) = true := beq_iff_eq.mpr c21
       have c21b1 : (x4_3 != 0) = false := bne_eq_false_iff_eq.mpr c21
       clear c21; by_cases c22 : x3_3.size + 6 ≤ 9223372036854775807; rotate_left
       · rw [if_neg c22] at H; exact absurd H (by simp)
       rw [if_pos c22] at H; have c22b0 := eq_true c22
       have c22b1 : decide (x3_3.size + 6 ≤ 9223372036854775807) = true := decide_eq_true c22
       try have c22b2 : (9223372036854775807 < x3_3.size + 6) = False := eq_false (Nat.not_lt.2 c22)
       by_cases c23 : 0 ≤ x4_3; rotate_left
       · rw [if_neg c23] at H; exact absurd H (by simp)
       rw [if_pos c23] at H
       have c23b0 : decide (0 ≤ x4_3) = true := decide_eq_true c23
       clear c23; by_cases c24 : (x3_3 ++ (⟨#[32, 104, 105, 100, 101, 32]⟩ : ByteArray)).size + (rdOf ByteArray.empty l0_4 x4_3).size ≤ 9223372036854775807; rotate_left
       · rw [if_neg c24] at H; exact absurd H (by simp)
       rw [if_pos c24] at H; have c24b0 := eq_true c24
       have c24b1 : decide ((x3_3 ++ (⟨#[32, 104, 105, 100, 101, 32]⟩ : ByteArray)).size + (rdOf ByteArray.empty l0_4 x4_3).size ≤ 9223372036854775807) = true := decide_eq_true c24
       try have c24b2 : (9223372036854775807 < (x3_3 ++ (⟨#[32, 104, 105, 100, 101, 32]⟩ : ByteArray)).size + (rdOf ByteArray.empty l0_4 x4_3).size) = False := eq_false (Nat.not_lt.2 c24)
       (try (have c24b3 := c24b2; simp only [ByteArray.size_append', ByteArray.size_mk', List.size_toArray, List.length_cons, List.length_nil, Nat.zero_add, Nat.reduceAdd] at c24b3))
       have H' := Aside0.mk H; clear H
       have hcz25_0 : wr.cell? ⟨gb446, 0, none⟩ = some (.bool a0_0) := (blk_cell BK446.out 0).trans rfl
       have hcz25_1 : wr.cell? ⟨gb446, 1, none⟩ = some (.int .i64 a0_1) := (blk_cell BK446.out 1).trans rfl
       have hcz25_2 : wr.cell? ⟨gb446, 2, none⟩ = some (.string a0_2) := (blk_cell BK446.out 2).trans rfl
       have hcz25_3 : wr.cell? ⟨gb446, 3, none⟩ = some (.slice A0_3 l0_3.length c0_3) := (blk_cell BK446.out 3).trans rfl
       have hcz25_4 : wr.cell? ⟨gb446, 4, none⟩ = some (.slice A0_4 l0_4.length c0_4) := (blk_cell BK446.out 4).trans rfl
       have hfz25_0 := blk_frozen BK446.out 0; have hfz25_1 := blk_frozen BK446.out 1; have hfz25_2 := blk_frozen BK446.out 2; have hfz25_3 := blk_frozen BK446.out 3; have hfz25_4 := blk_frozen BK446.out 4
       have p449 : 0 ≤ (x4_3 : Int) := of_decide_eq_true asm
       have q449 : x4_3 < (l0_4.length : Int) := of_decide_eq_true asm
       obtain ⟨ad449, e449, hx449_0⟩ := Kd.at_string HR0_4.out x4_3 p449 q449
       cases e449
       replace hx449_0 := bC HB hx449_0
       replace p449 := eq_true p449; replace q449 := eq_true q449; go_wp2
       go_roundg k3
       case measure => have := HJ1.out; have := HJ9.out; have := HK3.out; omega
       case rel => exact ⟨((x3_3 ++ (⟨#[32, 104, 105, 100, 101, 32]⟩ : ByteArray)) ++ (rdOf ByteArray.empty l0_4 x4_3)), (wrap64 (x4_3 + 1)), sR, sR, H', ⟨by have := HJ1.out; have := HJ9.out; have := HK3.out; omega⟩, ⟨by (with_reducible repeat (first | refine blk_drewN ?_ _ | refine blk_drew ?_ | refine blk_alloc ?_ _)); exact BK446.out⟩, ⟨bO⟩⟩
def belfryref11_Print.l0 : Nat → List (S46) → ByteArray → Int → Option (ByteArray × Int × Int)
  | 0, _, _, _ => none
  | k + 1, x0, x5, x6 => if x6 < (x0.length : Int) then (if 0 ≤ x6 then ((belfryref11_Right.f k ((rd_T46 x0 x6).f0) ((rd_T46 x0 x6).f1) ((rd_T46 x0 x6).f2) ((rd_T46 x0 x6).f3) ((rd_T46 x0 x6).f4)).bind fun t452 => (if t452 = 0 then ((belfryref11_text.f k ((rd_T46 x0 x6).f0) ((rd_T46 x0 x6).f1) ((rd_T46 x0 x6).f2) ((rd_T46 x0 x6).f3) ((rd_T46 x0 x6).f4)).bind fun t454 => (if x5.size + t454.size ≤ 9223372036854775807 then (if (x5 ++ t454).size + 1 ≤ 9223372036854775807 then (belfryref11_Print.l0 k x0 ((x5 ++ t454) ++ (⟨#[10]⟩ : ByteArray)) (wrap64 (x6 + 1))) else (none)) else (none))) else (some ((⟨#[]⟩ : ByteArray), t452, x6)))) else (none)) else (some (x5, 0, 0))
def belfryref11_Print.f (k : Nat) (l0 : List (S46)) : Option (ByteArray × Int × Int) := if (l0.length : Int) > 32 then (some ((⟨#[]⟩ : ByteArray), 7, 0)) else (belfryref11_Print.l0 k l0 (⟨#[]⟩ : ByteArray) 0)
set_option maxHeartbeats 8000000 in
set_option maxRecDepth 100000 in
theorem belfryref11_Print.calls (k : Nat) (A0 : Option Addr) (c0 : Nat) (l0 : List (S46)) (r1 : ByteArray) (r2 : Int) (r3 : Int) (w : World) (hr0 : Kd.C k46 w A0 l0.length l0) (hc0 : l0.length ≤ c0) (h : belfryref11_Print.f k l0 = some (r1, r2, r3)) :
  Calls Tryz.prog 18 #[.slice A0 l0.length c0] w fun e w' => e = .returned (.tuple #[.string r1, .int .i64 r2, .int .i64 r3]) ∧ Below w.heap.size w w' := by
 have hu46 := Tryz.underlying46; have HR0 := Aside0.mk hr0; have HC0 := Aside0.mk hc0; clear hr0 hc0; have HB := Aside0.mk (Below.refl w.heap.size w)
 have H : (if (l0.length : Int) > 32 then (some ((⟨#[]⟩ : ByteArray), 7, 0)) else (belfryref11_Print.l0 k l0 (⟨#[]⟩ : ByteArray) 0)) = some (r1, r2, r3) := h
 clear h; by_cases c2 : (l0.length : Int) > 32
 ·
  rw [if_pos c2] at H
  have c2b0 : decide (32 < (l0.length : Int)) = true := decide_eq_true c2
  have c2b1 : decide (32 < l0.length) = true := decide_eq_true (by omega)
  clear c2
  simp only [Option.some.injEq, Prod.mk.injEq] at H
  obtain ⟨rfl, rfl, rfl⟩ := H
  go_enter Tryz.func18, Tryz.ntmps18
  go_wp2; go_ret3
  exact ⟨eR, bO⟩
 rw [if_neg c2] at H
 have c2b0 : decide (32 < (l0.length : Int)) = false := decide_eq_false c2
 have c2b1 : decide (32 < l0.length) = false := decide_eq_false (by omega)
 clear c2; have H' := Aside0.mk H; clear H
 go_enter Tryz.func18, Tryz.ntmps18
 go_wp2
 go_loopg [5, 6] k (fun kq v5 v6 w' => ∃ (x5_1 : ByteArray) (x6_1 : Int), v5 = .string x5_1 ∧ v6 = .int .i64 x6_1 ∧ Aside0 (belfryref11_Print.l0 kq l0 x5_1 x6_1 = some (r1, r2, r3)) ∧ Aside0 (kq ≤ k) ∧ Aside0 (Below w.heap.size w w'))
 case atStart => exact ⟨((⟨#[]⟩ : ByteArray)), (0), sR, sR, H', ⟨Nat.le_refl _⟩, ⟨bO⟩⟩
 case round =>
  clear H'; (try clear c1); (try clear c2); (try clear c2b0); (try clear c2b1); (try clear p2)
  obtain ⟨x5_1, x6_1, rfl, rfl, HA, HK1, HB⟩ := hrel
  cases gk with
  | zero => exact absurd HA.out (by simp [belfryref11_Print.l0])
  | succ k1 =>
   have H := HA.out; clear HA
   simp only [belfryref11_Print.l0] at H
   by_cases c3 : x6_1 < (l0.length : Int); rotate_left
   ·
    rw [if_neg c3] at H
    have c3b0 : decide (x6_1 < (l0.length : Int)) = false := decide_eq_false c3
    clear c3
    simp only [Option.some.injEq, Prod.mk.injEq] at H
    obtain ⟨rfl, rfl, rfl⟩ := H
    go_wp2; go_ret3
    exact ⟨eR, bO⟩
   rw [if_pos c3] at H
   have c3b0 : decide (x6_1 < (l0.length : Int)) = true := decide_eq_true c3
   clear c3; by_cases c4 : 0 ≤ x6_1; rotate_left
   · rw [if_neg c4] at H; exact absurd H (by simp)
   rw [if_pos c4] at H
   have c4b0 : decide (0 ≤ x6_1) = true := decide_eq_true c4
   clear c4
   replace H := Option.bind_eq_some_iff.mp H
   obtain ⟨t452, A50, H⟩ := H
   replace H : (if t452 = 0 then ((belfryref11_text.f k1 ((rd_T46 l0 x6_1).f0) ((rd_T46 l0 x6_1).f1) ((rd_T46 l0 x6_1).f2) ((rd_T46 l0 x6_1).f3) ((rd_T46 l0 x6_1).f4)).bind fun t454 => (if x5_1.size + t454.size ≤ 9223372036854775807 then (if (x5_1 ++ t454).size + 1 ≤ 9223372036854775807 then (belfryref11_Print.l0 k1 l0 ((x5_1 ++ t454) ++ (⟨#[10]⟩ : ByteArray)) (wrap64 (x6_1 + 1))) else (none)) else (none))) else (some ((⟨#[]⟩ : ByteArray), t452, x6_1))) = some (r1, r2, r3) := H
   have A5 := Aside0.mk A50; clear A50; by_cases c6 : t452 = 0; rotate_left
   ·
    rw [if_neg c6] at H
    have c6b0 : (t452 == 0) = false := beq_eq_false_iff_ne.mpr c6
    have c6b1 : (t452 != 0) = true := bne_iff_ne.mpr c6
    simp only [Option.some.injEq, Prod.mk.injEq] at H
    obtain ⟨rfl, rfl, rfl⟩ := H
    have p451 : 0 ≤ (x6_1 : Int) := of_decide_eq_true asm
    have q451 : x6_1 < (l0.length : Int) := of_decide_eq_true asm
    obtain ⟨ad451, A451_3, c451_3, A451_4, c451_4, e451, hx451_0, hx451_1, hx451_2, hx451_3, hx451_4, hl451_3, hi451_3, hl451_4, hi451_4⟩ := at_T46 HR0.out x6_1 p451 q451
    cases e451
    replace hx451_0 := bC HB hx451_0
    replace hx451_1 := bC HB hx451_1
    replace hx451_2 := bC HB hx451_2
    replace hx451_3 := bC HB hx451_3
    replace hx451_4 := bC HB hx451_4
    have HR451_3 := Aside0.mk hi451_3; have HC451_3 := Aside0.mk hl451_3; clear hi451_3 hl451_3; have HR451_4 := Aside0.mk hi451_4; have HC451_4 := Aside0.mk hl451_4; clear hi451_4 hl451_4; replace p451 := eq_true p451; replace q451 := eq_true q451
    go_wp2_with (first | ((with_reducible refine gate_callee (f := 23) rfl ?_); refine goesL_ (some 21) rfl rfl Tryz.func23 (by kernel_rfl) rfl #[.agg #[.bool ((rd_T46 l0 x6_1).f0), .int .i64 ((rd_T46 l0 x6_1).f1), .string ((rd_T46 l0 x6_1).f2), .slice A451_3 ((rd_T46 l0 x6_1).f3).length c451_3, .slice A451_4 ((rd_T46 l0 x6_1).f4).length c451_4]] rfl lR ?_; (with_reducible refine (belfryref11_Right.calls k1 ((rd_T46 l0 x6_1).f0) ((rd_T46 l0 x6_1).f1) ((rd_T46 l0 x6_1).f2) _ _ ((rd_T46 l0 x6_1).f3) _ _ ((rd_T46 l0 x6_1).f4) t452 _ ?side1 ?side2 ?side3 ?side4 A5.out).mono ?_); (case side1 => repeat (first | exact (Kd.C_below HR451_3.out HB.out) | (with_reducible refine Kd.C_alloc ?_ _) | (with_reducible refine Kd.C_drewN ?_ _) | (with_reducible refine Kd.C_drew ?_))); (case side2 => exact HC451_3.out); (case side3 => repeat (first | exact (Kd.C_below HR451_4.out HB.out) | (with_reducible refine Kd.C_alloc ?_ _) | (with_reducible refine Kd.C_drewN ?_ _) | (with_reducible refine Kd.C_drew ?_))); (case side4 => exact HC451_4.out); rintro e w12 ⟨rfl, hb⟩; refine ⟨_, rfl, ?_⟩; have n0_ := Aside0.mk (below_step bO hb); clear HB; have HB := n0_; clear n0_; (try clear hb); (try clear hb2); (try clear hk); (try clear hi)))
    go_ret3
    exact ⟨eR, bO⟩
   rw [if_pos c6] at H
   have c6b0 : (t452 == 0) = true := beq_iff_eq.mpr c6
   have c6b1 : (t452 != 0) = false := bne_eq_false_iff_eq.mpr c6
   clear c6
   replace H := Option.bind_eq_some_iff.mp H
   obtain ⟨t454, A70, H⟩ := H
   replace H : (if x5_1.size + t454.size ≤ 9223372036854775807 then (if (x5_1 ++ t454).size + 1 ≤ 9223372036854775807 then (belfryref11_Print.l0 k1 l0 ((x5_1 ++ t454) ++ (⟨#[10]⟩ : ByteArray)) (wrap64 (x6_1 + 1))) else (none)) else (none)) = some (r1, r2, r3) := H
   have A7 := Aside0.mk A70; clear A70; by_cases c8 : x5_1.size + t454.size ≤ 9223372036854775807; rotate_left
   · rw [if_neg c8] at H; exact absurd H (by simp)
   rw [if_pos c8] at H; have c8b0 := eq_true c8
   have c8b1 : decide (x5_1.size + t454.size ≤ 9223372036854775807) = true := decide_eq_true c8
   try have c8b2 : (9223372036854775807 < x5_1.size + t454.size) = False := eq_false (Nat.not_lt.2 c8)
   by_cases c9 : (x5_1 ++ t454).size + 1 ≤ 9223372036854775807; rotate_left
   · rw [if_neg c9] at H; exact absurd H (by simp)
   rw [if_pos c9] at H; have c9b0 := eq_true c9
   have c9b1 : decide ((x5_1 ++ t454).size + 1 ≤ 9223372036854775807) = true := decide_eq_true c9
   try have c9b2 : (9223372036854775807 < (x5_1 ++ t454).size + 1) = False := eq_false (Nat.not_lt.2 c9)
   (try (have c9b3 := c9b2; simp only [ByteArray.size_append', ByteArray.size_mk', List.size_toArray, List.length_cons, List.length_nil, Nat.zero_add, Nat.reduceAdd] at c9b3))
   have H' := Aside0.mk H; clear H
   have p451 : 0 ≤ (x6_1 : Int) := of_decide_eq_true asm
   have q451 : x6_1 < (l0.length : Int) := of_decide_eq_true asm
   obtain ⟨ad451, A451_3, c451_3, A451_4, c451_4, e451, hx451_0, hx451_1, hx451_2, hx451_3, hx451_4, hl451_3, hi451_3, hl451_4, hi451_4⟩ := at_T46 HR0.out x6_1 p451 q451
   cases e451
   replace hx451_0 := bC HB hx451_0
   replace hx451_1 := bC HB hx451_1
   replace hx451_2 := bC HB hx451_2
   replace hx451_3 := bC HB hx451_3
   replace hx451_4 := bC HB hx451_4
   have HR451_3 := Aside0.mk hi451_3; have HC451_3 := Aside0.mk hl451_3; clear hi451_3 hl451_3; have HR451_4 := Aside0.mk hi451_4; have HC451_4 := Aside0.mk hl451_4; clear hi451_4 hl451_4; replace p451 := eq_true p451; replace q451 := eq_true q451
   go_wp2_with (first | ((with_reducible refine gate_callee (f := 23) rfl ?_); refine goesL_ (some 21) rfl rfl Tryz.func23 (by kernel_rfl) rfl #[.agg #[.bool ((rd_T46 l0 x6_1).f0), .int .i64 ((rd_T46 l0 x6_1).f1), .string ((rd_T46 l0 x6_1).f2), .slice A451_3 ((rd_T46 l0 x6_1).f3).length c451_3, .slice A451_4 ((rd_T46 l0 x6_1).f4).length c451_4]] rfl lR ?_; (with_reducible refine (belfryref11_Right.calls k1 ((rd_T46 l0 x6_1).f0) ((rd_T46 l0 x6_1).f1) ((rd_T46 l0 x6_1).f2) _ _ ((rd_T46 l0 x6_1).f3) _ _ ((rd_T46 l0 x6_1).f4) t452 _ ?side1 ?side2 ?side3 ?side4 A5.out).mono ?_); (case side1 => repeat (first | exact (Kd.C_below HR451_3.out HB.out) | (with_reducible refine Kd.C_alloc ?_ _) | (with_reducible refine Kd.C_drewN ?_ _) | (with_reducible refine Kd.C_drew ?_))); (case side2 => exact HC451_3.out); (case side3 => repeat (first | exact (Kd.C_below HR451_4.out HB.out) | (with_reducible refine Kd.C_alloc ?_ _) | (with_reducible refine Kd.C_drewN ?_ _) | (with_reducible refine Kd.C_drew ?_))); (case side4 => exact HC451_4.out); rintro e w10 ⟨rfl, hb⟩; refine ⟨_, rfl, ?_⟩; have n0_ := Aside0.mk (below_step bO hb); clear HB; have HB := n0_; clear n0_; (try clear hb); (try clear hb2); (try clear hk); (try clear hi); have p453 : 0 ≤ (x6_1 : Int) := of_decide_eq_true asm; have q453 : x6_1 < (l0.length : Int) := of_decide_eq_true asm; obtain ⟨ad453, A453_3, c453_3, A453_4, c453_4, e453, hx453_0, hx453_1, hx453_2, hx453_3, hx453_4, hl453_3, hi453_3, hl453_4, hi453_4⟩ := at_T46 HR0.out x6_1 p453 q453; obtain rfl : ad451 = ad453 := (by injection e453); replace hx453_0 := bC HB hx453_0; replace hx453_1 := bC HB hx453_1; replace hx453_2 := bC HB hx453_2; replace hx453_3 := bC HB hx453_3; replace hx453_4 := bC HB hx453_4; have HR453_3 := Aside0.mk hi453_3; have HC453_3 := Aside0.mk hl453_3; clear hi453_3 hl453_3; have HR453_4 := Aside0.mk hi453_4; have HC453_4 := Aside0.mk hl453_4; clear hi453_4 hl453_4; replace p453 := eq_true p453; replace q453 := eq_true q453) | ((with_reducible refine gate_callee (f := 43) rfl ?_); refine goesL_ (some 31) rfl rfl Tryz.func43 (by kernel_rfl) rfl #[.agg #[.bool ((rd_T46 l0 x6_1).f0), .int .i64 ((rd_T46 l0 x6_1).f1), .string ((rd_T46 l0 x6_1).f2), .slice A453_3 ((rd_T46 l0 x6_1).f3).length c453_3, .slice A453_4 ((rd_T46 l0 x6_1).f4).length c453_4]] rfl lR ?_; (with_reducible refine (belfryref11_text.calls k1 ((rd_T46 l0 x6_1).f0) ((rd_T46 l0 x6_1).f1) ((rd_T46 l0 x6_1).f2) _ _ ((rd_T46 l0 x6_1).f3) _ _ ((rd_T46 l0 x6_1).f4) t454 _ ?side1 ?side2 ?side3 ?side4 A7.out).mono ?_); (case side1 => repeat (first | exact (Kd.C_below HR453_3.out HB.out) | (with_reducible refine Kd.C_alloc ?_ _) | (with_reducible refine Kd.C_drewN ?_ _) | (with_reducible refine Kd.C_drew ?_))); (case side2 => exact HC453_3.out); (case side3 => repeat (first | exact (Kd.C_below HR453_4.out HB.out) | (with_reducible refine Kd.C_alloc ?_ _) | (with_reducible refine Kd.C_drewN ?_ _) | (with_reducible refine Kd.C_drew ?_))); (case side4 => exact HC453_4.out); rintro e w11 ⟨rfl, hb⟩; refine ⟨_, rfl, ?_⟩; have n0_ := Aside0.mk (below_step bO hb); clear HB; have HB := n0_; clear n0_; (try clear hb); (try clear hb2); (try clear hk); (try clear hi)))
   go_roundg k1
   case measure => have := HK1.out; omega
   case rel => exact ⟨((x5_1 ++ t454) ++ (⟨#[10]⟩ : ByteArray)), (wrap64 (x6_1 + 1)), sR, sR, H', ⟨by have := HK1.out; omega⟩, ⟨bO⟩⟩
end Go.Proofs.YtkedidjjhhjdbaaGreatDoor.Pr
