import Derived.Test.YtkedidjjhhjdbaaGreatDoorWc0
import Derived.Test.YtkedidjjhhjdbaaGreatDoorWc5
namespace Go.Proofs.YtkedidjjhhjdbaaGreatDoor.Pr
open Go.RowKit Go.Proofs.YtkedidjjhhjdbaaGreatDoorW.PrintWords Go.Proofs.YtkedidjjhhjdbaaGreatDoorW.PrintLast Go.Proofs.YtkedidjjhhjdbaaGreatDoorW.PrintMore
attribute [local go_sem] max2_int min2_int max_two min_two max_three min_three max_four min_four strGtr strLeq strGeq
set_option linter.unusedVariables false
set_option linter.unusedSimpArgs false
def belfryref11_Kind.f (a0 : Int) : Option (ByteArray) := (some (([(⟨#[97, 110, 121]⟩ : ByteArray), (⟨#[109, 101, 116, 114, 105, 99, 115]⟩ : ByteArray), (⟨#[108, 111, 103, 115]⟩ : ByteArray), (⟨#[116, 114, 97, 99, 101, 115]⟩ : ByteArray)] : List ByteArray) : List ByteArray)).bind fun y389 => (if a0 < 0 then (some (⟨#[]⟩ : ByteArray)) else (if a0 ≥ (y389.length : Int) then (some (⟨#[]⟩ : ByteArray)) else (if 0 ≤ a0 then (if a0 < (y389.length : Int) then (some (rdOf ByteArray.empty y389 a0)) else (none)) else (none))))
set_option maxHeartbeats 8000000 in
set_option maxRecDepth 100000 in
theorem belfryref11_Kind.calls (a0 : Int) (r : ByteArray) (w : World) (h : belfryref11_Kind.f a0 = some r) :
  Calls Tryz.prog 20 #[.int .i64 a0] w fun e w' => e = .returned (.string r) ∧ Below w.heap.size w w' := by
 have HB := Aside0.mk (Below.refl w.heap.size w)
 have H : ((some (([(⟨#[97, 110, 121]⟩ : ByteArray), (⟨#[109, 101, 116, 114, 105, 99, 115]⟩ : ByteArray), (⟨#[108, 111, 103, 115]⟩ : ByteArray), (⟨#[116, 114, 97, 99, 101, 115]⟩ : ByteArray)] : List ByteArray) : List ByteArray)).bind fun y389 => (if a0 < 0 then (some (⟨#[]⟩ : ByteArray)) else (if a0 ≥ (y389.length : Int) then (some (⟨#[]⟩ : ByteArray)) else (if 0 ≤ a0 then (if a0 < (y389.length : Int) then (some (rdOf ByteArray.empty y389 a0)) else (none)) else (none))))) = some r := h
 clear h
 obtain ⟨y389, hy389⟩ : ∃ y_ : List ByteArray, y_ = (([(⟨#[97, 110, 121]⟩ : ByteArray), (⟨#[109, 101, 116, 114, 105, 99, 115]⟩ : ByteArray), (⟨#[108, 111, 103, 115]⟩ : ByteArray), (⟨#[116, 114, 97, 99, 101, 115]⟩ : ByteArray)] : List ByteArray)) := ⟨_, rfl⟩
 replace H : (if a0 < 0 then (some (⟨#[]⟩ : ByteArray)) else (if a0 ≥ (y389.length : Int) then (some (⟨#[]⟩ : ByteArray)) else (if 0 ≤ a0 then (if a0 < (y389.length : Int) then (some (rdOf ByteArray.empty y389 a0)) else (none)) else (none)))) = some r := by first | (rw [hy389]; with_reducible exact H) | (have H2_ := (Option.bind_some _ _).symm.trans H; rw [hy389]; with_reducible exact H2_) | (have H2_ := (Option.bind_some _ _).symm.trans H; with_reducible exact H2_) | with_reducible exact H | (rw [hy389]; exact H) | exact H
 have Ny389 := Aside0.mk hy389; clear hy389; by_cases c2 : a0 < 0
 ·
  rw [if_pos c2] at H
  have c2b0 : decide (a0 < 0) = true := decide_eq_true c2
  clear c2
  obtain rfl := Option.some.inj H
  go_enter Tryz.func20, Tryz.ntmps20
  go_wp2_with (first | ((with_reducible refine gate_dst (N := 4) rfl ?_); (try (refine gate_guard (by rfl) ?_; dsimp only)); refine Kd.R_lit Kd.string _ 9 ?hg (N := 4) ?hd (xs := ([(⟨#[97, 110, 121]⟩ : ByteArray), (⟨#[109, 101, 116, 114, 105, 99, 115]⟩ : ByteArray), (⟨#[108, 111, 103, 115]⟩ : ByteArray), (⟨#[116, 114, 97, 99, 101, 115]⟩ : ByteArray)] : List ByteArray)) (inner := [.string (⟨#[97, 110, 121]⟩ : ByteArray), .string (⟨#[109, 101, 116, 114, 105, 99, 115]⟩ : ByteArray), .string (⟨#[108, 111, 103, 115]⟩ : ByteArray), .string (⟨#[116, 114, 97, 99, 101, 115]⟩ : ByteArray)]) (ok := fun _ => True) (okp := fun _ => True) ?hr ?hp (fun _ hk => hk) trivial (Below.refl _ _) (Nat.le_refl _) (by simp) ?_; (case hd => rfl); (case hg => rfl); (case hr => first | (go_simp; done) | (go_simp; rfl)); (case hp => exact (Reps.one (show Kd.M Kd.string _ _ _ (⟨#[97, 110, 121]⟩ : ByteArray) [.string (⟨#[97, 110, 121]⟩ : ByteArray)] from rfl) (Reps.one (show Kd.M Kd.string _ _ _ (⟨#[109, 101, 116, 114, 105, 99, 115]⟩ : ByteArray) [.string (⟨#[109, 101, 116, 114, 105, 99, 115]⟩ : ByteArray)] from rfl) (Reps.one (show Kd.M Kd.string _ _ _ (⟨#[108, 111, 103, 115]⟩ : ByteArray) [.string (⟨#[108, 111, 103, 115]⟩ : ByteArray)] from rfl) (Reps.one (show Kd.M Kd.string _ _ _ (⟨#[116, 114, 97, 99, 101, 115]⟩ : ByteArray) [.string (⟨#[116, 114, 97, 99, 101, 115]⟩ : ByteArray)] from rfl) (Reps.none _ _)))))); intro v390 w3 ho4 hb hg_ hnew_; clear hg_ hnew_; (first | rw [← Ny389.out] at ho4 | (simp only [Int.reduceToNat] at ho4; rw [← Ny389.out] at ho4)); have n0_ := Aside0.mk (Kd.R_lower ho4 (below_size bO)); have n1_ := Aside0.mk (below_step bO hb); clear HB; have HO391 := n0_; have HB := n1_; clear n0_ n1_; clear hb ho4))
  go_ret
  exact ⟨eR, bO⟩
 rw [if_neg c2] at H
 have c2b0 : decide (a0 < 0) = false := decide_eq_false c2
 clear c2; by_cases c5 : a0 ≥ (y389.length : Int)
 ·
  rw [if_pos c5] at H
  have c5b0 : decide ((y389.length : Int) ≤ a0) = true := decide_eq_true c5
  clear c5
  obtain rfl := Option.some.inj H
  go_enter Tryz.func20, Tryz.ntmps20
  go_wp2_with (first | ((with_reducible refine gate_dst (N := 4) rfl ?_); (try (refine gate_guard (by rfl) ?_; dsimp only)); refine Kd.R_lit Kd.string _ 9 ?hg (N := 4) ?hd (xs := ([(⟨#[97, 110, 121]⟩ : ByteArray), (⟨#[109, 101, 116, 114, 105, 99, 115]⟩ : ByteArray), (⟨#[108, 111, 103, 115]⟩ : ByteArray), (⟨#[116, 114, 97, 99, 101, 115]⟩ : ByteArray)] : List ByteArray)) (inner := [.string (⟨#[97, 110, 121]⟩ : ByteArray), .string (⟨#[109, 101, 116, 114, 105, 99, 115]⟩ : ByteArray), .string (⟨#[108, 111, 103, 115]⟩ : ByteArray), .string (⟨#[116, 114, 97, 99, 101, 115]⟩ : ByteArray)]) (ok := fun _ => True) (okp := fun _ => True) ?hr ?hp (fun _ hk => hk) trivial (Below.refl _ _) (Nat.le_refl _) (by simp) ?_; (case hd => rfl); (case hg => rfl); (case hr => first | (go_simp; done) | (go_simp; rfl)); (case hp => exact (Reps.one (show Kd.M Kd.string _ _ _ (⟨#[97, 110, 121]⟩ : ByteArray) [.string (⟨#[97, 110, 121]⟩ : ByteArray)] from rfl) (Reps.one (show Kd.M Kd.string _ _ _ (⟨#[109, 101, 116, 114, 105, 99, 115]⟩ : ByteArray) [.string (⟨#[109, 101, 116, 114, 105, 99, 115]⟩ : ByteArray)] from rfl) (Reps.one (show Kd.M Kd.string _ _ _ (⟨#[108, 111, 103, 115]⟩ : ByteArray) [.string (⟨#[108, 111, 103, 115]⟩ : ByteArray)] from rfl) (Reps.one (show Kd.M Kd.string _ _ _ (⟨#[116, 114, 97, 99, 101, 115]⟩ : ByteArray) [.string (⟨#[116, 114, 97, 99, 101, 115]⟩ : ByteArray)] from rfl) (Reps.none _ _)))))); intro v390 w6 ho7 hb hg_ hnew_; clear hg_ hnew_; (first | rw [← Ny389.out] at ho7 | (simp only [Int.reduceToNat] at ho7; rw [← Ny389.out] at ho7)); have n0_ := Aside0.mk (Kd.R_lower ho7 (below_size bO)); have n1_ := Aside0.mk (below_step bO hb); clear HB; have HO391 := n0_; have HB := n1_; clear n0_ n1_; clear hb ho7; obtain ⟨Ao8, co8, eo8⟩ := Kd.R_slice HO391.out; subst eo8))
  go_ret
  exact ⟨eR, bO⟩
 rw [if_neg c5] at H
 have c5b0 : decide ((y389.length : Int) ≤ a0) = false := decide_eq_false c5
 clear c5; by_cases c9 : 0 ≤ a0; rotate_left
 · rw [if_neg c9] at H; exact absurd H (by simp)
 rw [if_pos c9] at H
 have c9b0 : decide (0 ≤ a0) = true := decide_eq_true c9
 clear c9; by_cases c10 : a0 < (y389.length : Int); rotate_left
 · rw [if_neg c10] at H; exact absurd H (by simp)
 rw [if_pos c10] at H
 have c10b0 : decide (a0 < (y389.length : Int)) = true := decide_eq_true c10
 clear c10
 obtain rfl := Option.some.inj H
 go_enter Tryz.func20, Tryz.ntmps20
 go_wp2_with (first | ((with_reducible refine gate_dst (N := 4) rfl ?_); (try (refine gate_guard (by rfl) ?_; dsimp only)); refine Kd.R_lit Kd.string _ 9 ?hg (N := 4) ?hd (xs := ([(⟨#[97, 110, 121]⟩ : ByteArray), (⟨#[109, 101, 116, 114, 105, 99, 115]⟩ : ByteArray), (⟨#[108, 111, 103, 115]⟩ : ByteArray), (⟨#[116, 114, 97, 99, 101, 115]⟩ : ByteArray)] : List ByteArray)) (inner := [.string (⟨#[97, 110, 121]⟩ : ByteArray), .string (⟨#[109, 101, 116, 114, 105, 99, 115]⟩ : ByteArray), .string (⟨#[108, 111, 103, 115]⟩ : ByteArray), .string (⟨#[116, 114, 97, 99, 101, 115]⟩ : ByteArray)]) (ok := fun _ => True) (okp := fun _ => True) ?hr ?hp (fun _ hk => hk) trivial (Below.refl _ _) (Nat.le_refl _) (by simp) ?_; (case hd => rfl); (case hg => rfl); (case hr => first | (go_simp; done) | (go_simp; rfl)); (case hp => exact (Reps.one (show Kd.M Kd.string _ _ _ (⟨#[97, 110, 121]⟩ : ByteArray) [.string (⟨#[97, 110, 121]⟩ : ByteArray)] from rfl) (Reps.one (show Kd.M Kd.string _ _ _ (⟨#[109, 101, 116, 114, 105, 99, 115]⟩ : ByteArray) [.string (⟨#[109, 101, 116, 114, 105, 99, 115]⟩ : ByteArray)] from rfl) (Reps.one (show Kd.M Kd.string _ _ _ (⟨#[108, 111, 103, 115]⟩ : ByteArray) [.string (⟨#[108, 111, 103, 115]⟩ : ByteArray)] from rfl) (Reps.one (show Kd.M Kd.string _ _ _ (⟨#[116, 114, 97, 99, 101, 115]⟩ : ByteArray) [.string (⟨#[116, 114, 97, 99, 101, 115]⟩ : ByteArray)] from rfl) (Reps.none _ _)))))); intro v390 w11 ho12 hb hg_ hnew_; clear hg_ hnew_; (first | rw [← Ny389.out] at ho12 | (simp only [Int.reduceToNat] at ho12; rw [← Ny389.out] at ho12)); have n0_ := Aside0.mk (Kd.R_lower ho12 (below_size bO)); have n1_ := Aside0.mk (below_step bO hb); clear HB; have HO391 := n0_; have HB := n1_; clear n0_ n1_; clear hb ho12; obtain ⟨Ao13, co13, eo13⟩ := Kd.R_slice HO391.out; subst eo13; have p392 : 0 ≤ (a0 : Int) := of_decide_eq_true asm; have q392 : a0 < (y389.length : Int) := of_decide_eq_true asm; obtain ⟨ad392, e392, hx392_0⟩ := Kd.at_string (Kd.R_reads' HO391.out).2.2 a0 p392 q392; cases e392; replace p392 := eq_true p392; replace q392 := eq_true q392))
 go_ret
 exact ⟨eR, bO⟩
mutual
def belfryref04_Quote.l0 : Nat → ByteArray → List Int → Int → Option (ByteArray)
  | 0, _, _, _ => none
  | k + 1, x0, x3, x4 => if x4 < (x0.size : Int) then (if 0 ≤ x4 then (if (bt x0 x4) = 34 then (belfryref04_Quote.j1 k x0 x3 x4 (bt x0 x4) ((bt x0 x4) == 34)) else (belfryref04_Quote.j1 k x0 x3 x4 (bt x0 x4) ((bt x0 x4) == 92))) else (none)) else (if x3.length < 140737488355328 then (some (strOfNums (x3 ++ [34]))) else (none))
def belfryref04_Quote.j1 : Nat → ByteArray → List Int → Int → Int → Bool → Option (ByteArray)
  | 0, _, _, _, _, _ => none
  | k + 1, x0, x3, x4, x14, x21 => if x21 = true then (if 0 ≤ x4 then (if x4 < (x0.size : Int) then ((some (([92, bt x0 x4] : List Int) : List Int)).bind fun y399 => (if x3.length + y399.length < 140737488355328 then (belfryref04_Quote.l0 k x0 (x3 ++ y399) (wrap64 (x4 + 1))) else (none))) else (none)) else (none)) else (if x14 = 10 then ((some (([92, 110] : List Int) : List Int)).bind fun y405 => (if x3.length + y405.length < 140737488355328 then (belfryref04_Quote.l0 k x0 (x3 ++ y405) (wrap64 (x4 + 1))) else (none))) else (if 0 ≤ x4 then (if x4 < (x0.size : Int) then (if x3.length < 140737488355328 then (belfryref04_Quote.l0 k x0 (x3 ++ [bt x0 x4]) (wrap64 (x4 + 1))) else (none)) else (none)) else (none)))
end
def belfryref04_Quote.f (k : Nat) (a0 : ByteArray) : Option (ByteArray) := belfryref04_Quote.l0 k a0 (([34] : List Int)) 0
set_option maxHeartbeats 8000000 in
set_option maxRecDepth 100000 in
theorem belfryref04_Quote.calls (k : Nat) (a0 : ByteArray) (r : ByteArray) (w : World) (h : belfryref04_Quote.f k a0 = some r) :
  Calls Tryz.prog 110 #[.string a0] w fun e w' => e = .returned (.string r) ∧ Below w.heap.size w w' := by
 have HB := Aside0.mk (Below.refl w.heap.size w)
 have H : (belfryref04_Quote.l0 k a0 (([34] : List Int)) 0) = some r := h
 clear h
 obtain ⟨y393, hy393⟩ : ∃ y_ : List Int, y_ = (([34] : List Int)) := ⟨_, rfl⟩
 replace H : (belfryref04_Quote.l0 k a0 y393 0) = some r := by first | (rw [hy393]; with_reducible exact H) | (have H2_ := (Option.bind_some _ _).symm.trans H; rw [hy393]; with_reducible exact H2_) | (have H2_ := (Option.bind_some _ _).symm.trans H; with_reducible exact H2_) | with_reducible exact H | (rw [hy393]; exact H) | exact H
 have Ny393 := Aside0.mk hy393; clear hy393; have H' := Aside0.mk H; clear H
 go_enter Tryz.func110, Tryz.ntmps110
 go_wp2_with (first | ((with_reducible refine gate_dst (N := 5) rfl ?_); refine Kd.R_lit (Kd.int .u8) _ 5 ?hg (N := 5) ?hd (xs := ([34] : List Int)) (inner := [.int .u8 34]) (ok := fun _ => True) (okp := fun _ => True) ?hr ?hp (fun _ hk => hk) trivial (Below.refl _ _) (Nat.le_refl _) (by simp) ?_; (case hd => rfl); (case hg => rfl); (case hr => first | (go_simp; done) | (go_simp; rfl)); (case hp => exact (Reps.one (show Kd.M (Kd.int .u8) _ _ _ 34 [.int .u8 34] from rfl) (Reps.none _ _))); intro v394 w2 ho3 hb hg_ hnew_; clear hg_ hnew_; (first | rw [← Ny393.out] at ho3 | (simp only [Int.reduceToNat] at ho3; rw [← Ny393.out] at ho3)); have n0_ := Aside0.mk (Kd.R_lower ho3 (below_size bO)); have n1_ := Aside0.mk (below_step bO hb); clear HB; have HO395 := n0_; have HB := n1_; clear n0_ n1_; clear hb ho3))
 go_loopg [3, 4] k (fun kq v3 v4 w' => ∃ (x3_1 : List Int) (x4_1 : Int), v4 = .int .i64 x4_1 ∧ Aside0 (belfryref04_Quote.l0 kq a0 x3_1 x4_1 = some r) ∧ Aside0 (kq ≤ k) ∧ Aside0 (Kd.R (Kd.int .u8) 5 w' w.heap.size (fun _ => True) v3 x3_1) ∧ Aside0 (Below w.heap.size w w'))
 case atStart => exact ⟨(y393), (0), sR, H', ⟨Nat.le_refl _⟩, ⟨by (with_reducible repeat (first | apply Kd.R_alloc | apply Kd.R_drewN | apply Kd.R_drew)); exact HO395.out⟩, ⟨bO⟩⟩
 case round =>
  clear H'; (try clear c1); (try clear p2)
  obtain ⟨x3_1, x4_1, rfl, HA, HK1, HO_3, HB⟩ := hrel
  cases gk with
  | zero => exact absurd HA.out (by simp [belfryref04_Quote.l0])
  | succ k1 =>
   have H := HA.out; clear HA
   simp only [belfryref04_Quote.l0] at H
   by_cases c4 : x4_1 < (a0.size : Int); rotate_left
   ·
    rw [if_neg c4] at H
    have c4b0 : decide (x4_1 < (a0.size : Int)) = false := decide_eq_false c4
    clear c4; by_cases c29 : x3_1.length < 140737488355328; rotate_left
    · rw [if_neg c29] at H; exact absurd H (by simp)
    rw [if_pos c29] at H; have LMc29 := Aside0.mk c29; clear c29
    obtain ⟨y396, hy396⟩ : ∃ y_ : List Int, y_ = (x3_1 ++ [34]) := ⟨_, rfl⟩
    replace H : (some (strOfNums y396)) = some r := by first | (rw [hy396]; with_reducible exact H) | (have H2_ := (Option.bind_some _ _).symm.trans H; rw [hy396]; with_reducible exact H2_) | (have H2_ := (Option.bind_some _ _).symm.trans H; with_reducible exact H2_) | with_reducible exact H | (rw [hy396]; exact H) | exact H
    have Ny396 := Aside0.mk hy396; clear hy396
    obtain rfl := Option.some.inj H
    go_wp2_with (first | ((with_reducible refine gate_builtin (b := .append) (xs := #[.tmp 35, .tmp 36]) rfl ?_); at_builtin; refine Kd.R_append (Kd.int .u8) (w0 := w) w.heap.size rfl (.tmp 35) (.tmp 36) 74 5 (.int .u8 0) 1 rfl Tryz.underlying74 info5 rfl (by decide) (by omega) u3 x3_1 34 [.int .u8 34] (fun _ => True) (fun _ => False) rfl rfl ?aP (fun _ hk => hk.elim) ?aF ?aO ?aB ?aS ?aL ?_; (case aP => exact rfl); (case aB => exact bO); (case aF => exact (fun _ _ => trivial)); (case aO => exact (by (with_reducible repeat (first | apply Kd.R_alloc | apply Kd.R_drewN | apply Kd.R_drew)); exact HO_3.out)); (case aS => exact (below_size bO)); (case aL => have := LMc29.out; omega); intro v397 w30 ho hb hg hat; rw [← Ny396.out] at ho; have n0_ := Aside0.mk (hb); have n1_ := Aside0.mk (ho); clear HB; clear HO_3; have HB := n0_; have HO398 := n1_; clear n0_ n1_; clear ho hb hg hat; have hcv31 := own_string (P := Tryz.prog) Tryz.underlying74 Tryz.underlying5 Tryz.underlying9 (Kd.own_of_R HO398.out)))
    go_ret
    exact ⟨eR, bO⟩
   rw [if_pos c4] at H
   have c4b0 : decide (x4_1 < (a0.size : Int)) = true := decide_eq_true c4
   clear c4; by_cases c5 : 0 ≤ x4_1; rotate_left
   · rw [if_neg c5] at H; exact absurd H (by simp)
   rw [if_pos c5] at H
   have c5b0 : decide (0 ≤ x4_1) = true := decide_eq_true c5
   clear c5; have HC7 := Aside0.mk H; clear H
   have p6 : 0 ≤ (x4_1 : Int) := of_decide_eq_true asm
   have q6 : x4_1 < (a0.size : Int) := of_decide_eq_true asm
   have hx6 := bt_at a0 x4_1; replace p6 := eq_true p6; replace q6 := eq_true q6
   go_upto_if 21 with (fail)
   go_cut [21] (fun v21 wc => ∃ (kq : Nat) (x21_6 : Bool), v21 = .bool x21_6 ∧ Aside0 (belfryref04_Quote.j1 kq a0 x3_1 x4_1 (bt a0 x4_1) x21_6 = some r) ∧ Aside0 (kq ≤ k1) ∧ Aside0 (Kd.R (Kd.int .u8) 5 wc w.heap.size (fun _ => True) u3 x3_1) ∧ Aside0 (Below w.heap.size w wc))
   case first =>
    have H := HC7.out; clear HC7; by_cases c8 : (bt a0 x4_1) = 34; rotate_left
    ·
     rw [if_neg c8] at H
     have c8b0 : ((bt a0 x4_1) == 34) = false := beq_eq_false_iff_ne.mpr c8
     have c8b1 : ((bt a0 x4_1) != 34) = true := bne_iff_ne.mpr c8
     (first | rw [c8b0] | (simp only [i64_w, i32_w]; rw [c8b0]) | skip)
     have H' := Aside0.mk H; clear H; go_wp2
     go_meet
     case rel => exact ⟨_, (((bt a0 x4_1) == 92)), sR, H', ⟨by have := HK1.out; first | omega | exact Nat.le_refl _⟩, ⟨by (with_reducible repeat (first | apply Kd.R_alloc | apply Kd.R_drewN | apply Kd.R_drew)); exact HO_3.out⟩, ⟨bO⟩⟩
    rw [if_pos c8] at H
    have c8b0 : ((bt a0 x4_1) == 34) = true := beq_iff_eq.mpr c8
    have c8b1 : ((bt a0 x4_1) != 34) = false := bne_eq_false_iff_eq.mpr c8
    clear c8
    (first | rw [c8b0] | (simp only [i64_w, i32_w]; rw [c8b0]) | skip)
    have H' := Aside0.mk H; clear H; go_wp2
    go_meet
    case rel => exact ⟨_, (((bt a0 x4_1) == 34)), sR, H', ⟨by have := HK1.out; first | omega | exact Nat.le_refl _⟩, ⟨by (with_reducible repeat (first | apply Kd.R_alloc | apply Kd.R_drewN | apply Kd.R_drew)); exact HO_3.out⟩, ⟨bO⟩⟩
   case rest =>
    clear HC7; (try clear c1); (try clear p2); (try clear c4); (try clear c4b0); (try clear c5); (try clear c5b0); (try clear p6); (try clear q6); (try clear hx6); (try clear c8); (try clear c8b0); (try clear c8b1); (try clear p2); (try clear p6); (try clear q6)
    obtain ⟨kq, x21_6, rfl, HA, HJ6, HO_3, HB⟩ := hcut
    cases kq with
    | zero => exact absurd HA.out (by simp [belfryref04_Quote.j1])
    | succ kj6 =>
     have H := HA.out; clear HA
     simp only [belfryref04_Quote.j1] at H
     by_cases c9 : x21_6 = true
     ·
      subst c9
      have H1 : (if 0 ≤ x4_1 then (if x4_1 < (a0.size : Int) then ((some (([92, bt a0 x4_1] : List Int) : List Int)).bind fun y399 => (if x3_1.length + y399.length < 140737488355328 then (belfryref04_Quote.l0 kj6 a0 (x3_1 ++ y399) (wrap64 (x4_1 + 1))) else (none))) else (none)) else (none)) = some r := by rw [if_pos rfl] at H; exact H
      clear H; have H := H1; clear H1; by_cases c10 : 0 ≤ x4_1; rotate_left
      · rw [if_neg c10] at H; exact absurd H (by simp)
      rw [if_pos c10] at H
      have c10b0 : decide (0 ≤ x4_1) = true := decide_eq_true c10
      clear c10; by_cases c11 : x4_1 < (a0.size : Int); rotate_left
      · rw [if_neg c11] at H; exact absurd H (by simp)
      rw [if_pos c11] at H
      have c11b0 : decide (x4_1 < (a0.size : Int)) = true := decide_eq_true c11
      clear c11
      obtain ⟨y399, hy399⟩ : ∃ y_ : List Int, y_ = (([92, bt a0 x4_1] : List Int)) := ⟨_, rfl⟩
      replace H : (if x3_1.length + y399.length < 140737488355328 then (belfryref04_Quote.l0 kj6 a0 (x3_1 ++ y399) (wrap64 (x4_1 + 1))) else (none)) = some r := by first | (rw [hy399]; with_reducible exact H) | (have H2_ := (Option.bind_some _ _).symm.trans H; rw [hy399]; with_reducible exact H2_) | (have H2_ := (Option.bind_some _ _).symm.trans H; with_reducible exact H2_) | with_reducible exact H | (rw [hy399]; exact H) | exact H
      have Ny399 := Aside0.mk hy399; clear hy399; by_cases c13 : x3_1.length + y399.length < 140737488355328; rotate_left
      · rw [if_neg c13] at H; exact absurd H (by simp)
      rw [if_pos c13] at H; have LMc13 := Aside0.mk c13; clear c13
      obtain ⟨y402, hy402⟩ : ∃ y_ : List Int, y_ = (x3_1 ++ y399) := ⟨_, rfl⟩
      replace H : (belfryref04_Quote.l0 kj6 a0 y402 (wrap64 (x4_1 + 1))) = some r := by first | (rw [hy402]; with_reducible exact H) | (have H2_ := (Option.bind_some _ _).symm.trans H; rw [hy402]; with_reducible exact H2_) | (have H2_ := (Option.bind_some _ _).symm.trans H; with_reducible exact H2_) | with_reducible exact H | (rw [hy402]; exact H) | exact H
      have Ny402 := Aside0.mk hy402; clear hy402; have H' := Aside0.mk H; clear H
      have p12 : 0 ≤ (x4_1 : Int) := of_decide_eq_true asm
      have q12 : x4_1 < (a0.size : Int) := of_decide_eq_true asm
      have hx12 := bt_at a0 x4_1; replace p12 := eq_true p12; replace q12 := eq_true q12
      go_wp2_with (first | ((with_reducible refine gate_dst (N := 28) rfl ?_); refine Kd.R_lit (Kd.int .u8) _ 5 ?hg (N := 28) ?hd (xs := ([92, bt a0 x4_1] : List Int)) (inner := [.int .u8 92, .int .u8 (bt a0 x4_1)]) (ok := fun _ => True) (okp := fun _ => True) ?hr ?hp (fun _ hk => hk) trivial (Below.refl _ _) (Nat.le_refl _) (by simp) ?_; (case hd => rfl); (case hg => rfl); (case hr => first | (go_simp; done) | (go_simp; rfl)); (case hp => exact (Reps.one (show Kd.M (Kd.int .u8) _ _ _ 92 [.int .u8 92] from rfl) (Reps.one (show Kd.M (Kd.int .u8) _ _ _ (bt a0 x4_1) [.int .u8 (bt a0 x4_1)] from rfl) (Reps.none _ _)))); intro v400 w14 ho15 hb hg_ hnew_; clear hg_ hnew_; (first | rw [← Ny399.out] at ho15 | (simp only [Int.reduceToNat] at ho15; rw [← Ny399.out] at ho15)); have n0_ := Aside0.mk (Kd.R_elder' (by (with_reducible repeat (first | apply Kd.R_alloc | apply Kd.R_drewN | apply Kd.R_drew)); exact HO_3.out) (Kd.R_base ho15) hb); have n1_ := Aside0.mk (Kd.R_lower (Kd.R_new' ho15 (Kd.R_lt (by (with_reducible repeat (first | apply Kd.R_alloc | apply Kd.R_drewN | apply Kd.R_drew)); exact HO_3.out))) (below_size bO)); have n2_ := Aside0.mk (below_step bO hb); clear HO_3; clear HB; have HO_3 := n0_; have HO401 := n1_; have HB := n2_; clear n0_ n1_ n2_; clear hb ho15; obtain ⟨Ao17, co17, eo17⟩ := Kd.R_slice HO401.out; subst eo17) | ((with_reducible refine gate_builtin (b := .append) (xs := #[.tmp 24, .tmp 28]) rfl ?_); at_builtin; refine Kd.R_append_rows (Kd.int .u8) (w0 := w) w.heap.size rfl (.tmp 24) (.tmp 28) 74 5 (.int .u8 0) 1 rfl Tryz.underlying74 info5 rfl (by decide) (by omega) u3 x3_1 y399 _ _ _ (fun k_ => some k_ ≠ (.slice Ao17 y399.length co17 : Value).ownBlock) (fun _ => False) rfl rfl ?aO ?aR (fun _ _ h => h) (fun _ h => h.elim) ?aF ?aB ?aS ?aL ?_; (case aR => repeat (first | exact (Kd.R_reads' HO401.out).2.2 | (with_reducible refine Kd.C_alloc ?_ _) | (with_reducible refine Kd.C_drewN ?_ _) | (with_reducible refine Kd.C_drew ?_))); (case aB => exact bO); (case aF => exact (fun k_ hk => Kd.fresh' (Kd.R_lt (by (with_reducible repeat (first | apply Kd.R_alloc | apply Kd.R_drewN | apply Kd.R_drew)); exact HO401.out)) k_ hk)); (case aO => exact (by (with_reducible repeat (first | apply Kd.R_alloc | apply Kd.R_drewN | apply Kd.R_drew)); exact Kd.R_mono HO_3.out (fun _ hk => hk.2))); (case aS => exact (below_size bO)); (case aL => have := LMc13.out; omega); intro v403 w16 ho hb hg hat; rw [← Ny402.out] at ho; have n0_ := Aside0.mk (Kd.R_after (ok := (fun _ => True)) (by (with_reducible repeat (first | apply Kd.R_alloc | apply Kd.R_drewN | apply Kd.R_drew)); exact HO401.out) hg hat); have n1_ := Aside0.mk (hb); have n2_ := Aside0.mk (ho); clear HO401; clear HB; clear HO_3; have HO401 := n0_; have HB := n1_; have HO404 := n2_; clear n0_ n1_ n2_; clear ho hb hg hat))
      go_roundg kj6
      case measure => have := HK1.out; have := HJ6.out; omega
      case rel => exact ⟨(y402), (wrap64 (x4_1 + 1)), sR, H', ⟨by have := HK1.out; have := HJ6.out; omega⟩, ⟨by (with_reducible repeat (first | apply Kd.R_alloc | apply Kd.R_drewN | apply Kd.R_drew)); exact Kd.R_mono HO404.out (fun _ hk => trivial)⟩, ⟨bO⟩⟩
     replace c9 := Bool.eq_false_iff.mpr c9
     subst c9
     have H1 : (if (bt a0 x4_1) = 10 then ((some (([92, 110] : List Int) : List Int)).bind fun y405 => (if x3_1.length + y405.length < 140737488355328 then (belfryref04_Quote.l0 kj6 a0 (x3_1 ++ y405) (wrap64 (x4_1 + 1))) else (none))) else (if 0 ≤ x4_1 then (if x4_1 < (a0.size : Int) then (if x3_1.length < 140737488355328 then (belfryref04_Quote.l0 kj6 a0 (x3_1 ++ [bt a0 x4_1]) (wrap64 (x4_1 + 1))) else (none)) else (none)) else (none))) = some r := by rw [if_neg (show ¬ (false = true) by decide)] at H; exact H
     clear H; have H := H1; clear H1; by_cases c18 : (bt a0 x4_1) = 10; rotate_left
     ·
      rw [if_neg c18] at H
      have c18b0 : ((bt a0 x4_1) == 10) = false := beq_eq_false_iff_ne.mpr c18
      have c18b1 : ((bt a0 x4_1) != 10) = true := bne_iff_ne.mpr c18
      by_cases c24 : 0 ≤ x4_1; rotate_left
      · rw [if_neg c24] at H; exact absurd H (by simp)
      rw [if_pos c24] at H
      have c24b0 : decide (0 ≤ x4_1) = true := decide_eq_true c24
      clear c24; by_cases c25 : x4_1 < (a0.size : Int); rotate_left
      · rw [if_neg c25] at H; exact absurd H (by simp)
      rw [if_pos c25] at H
      have c25b0 : decide (x4_1 < (a0.size : Int)) = true := decide_eq_true c25
      clear c25; by_cases c27 : x3_1.length < 140737488355328; rotate_left
      · rw [if_neg c27] at H; exact absurd H (by simp)
      rw [if_pos c27] at H; have LMc27 := Aside0.mk c27; clear c27
      obtain ⟨y411, hy411⟩ : ∃ y_ : List Int, y_ = (x3_1 ++ [bt a0 x4_1]) := ⟨_, rfl⟩
      replace H : (belfryref04_Quote.l0 kj6 a0 y411 (wrap64 (x4_1 + 1))) = some r := by first | (rw [hy411]; with_reducible exact H) | (have H2_ := (Option.bind_some _ _).symm.trans H; rw [hy411]; with_reducible exact H2_) | (have H2_ := (Option.bind_some _ _).symm.trans H; with_reducible exact H2_) | with_reducible exact H | (rw [hy411]; exact H) | exact H
      have Ny411 := Aside0.mk hy411; clear hy411; have H' := Aside0.mk H; clear H
      have p26 : 0 ≤ (x4_1 : Int) := of_decide_eq_true asm
      have q26 : x4_1 < (a0.size : Int) := of_decide_eq_true asm
      have hx26 := bt_at a0 x4_1; replace p26 := eq_true p26; replace q26 := eq_true q26
      go_wp2_with (first | ((with_reducible refine gate_builtin (b := .append) (xs := #[.tmp 15, .tmp 19]) rfl ?_); at_builtin; refine Kd.R_append (Kd.int .u8) (w0 := w) w.heap.size rfl (.tmp 15) (.tmp 19) 74 5 (.int .u8 0) 1 rfl Tryz.underlying74 info5 rfl (by decide) (by omega) u3 x3_1 (bt a0 x4_1) [.int .u8 (bt a0 x4_1)] (fun _ => True) (fun _ => False) rfl rfl ?aP (fun _ hk => hk.elim) ?aF ?aO ?aB ?aS ?aL ?_; (case aP => exact rfl); (case aB => exact bO); (case aF => exact (fun _ _ => trivial)); (case aO => exact (by (with_reducible repeat (first | apply Kd.R_alloc | apply Kd.R_drewN | apply Kd.R_drew)); exact HO_3.out)); (case aS => exact (below_size bO)); (case aL => have := LMc27.out; omega); intro v412 w28 ho hb hg hat; rw [← Ny411.out] at ho; have n0_ := Aside0.mk (hb); have n1_ := Aside0.mk (ho); clear HB; clear HO_3; have HB := n0_; have HO413 := n1_; clear n0_ n1_; clear ho hb hg hat))
      go_roundg kj6
      case measure => have := HK1.out; have := HJ6.out; omega
      case rel => exact ⟨(y411), (wrap64 (x4_1 + 1)), sR, H', ⟨by have := HK1.out; have := HJ6.out; omega⟩, ⟨by (with_reducible repeat (first | apply Kd.R_alloc | apply Kd.R_drewN | apply Kd.R_drew)); exact HO413.out⟩, ⟨bO⟩⟩
     rw [if_pos c18] at H
     have c18b0 : ((bt a0 x4_1) == 10) = true := beq_iff_eq.mpr c18
     have c18b1 : ((bt a0 x4_1) != 10) = false := bne_eq_false_iff_eq.mpr c18
     clear c18
     obtain ⟨y405, hy405⟩ : ∃ y_ : List Int, y_ = (([92, 110] : List Int)) := ⟨_, rfl⟩
     replace H : (if x3_1.length + y405.length < 140737488355328 then (belfryref04_Quote.l0 kj6 a0 (x3_1 ++ y405) (wrap64 (x4_1 + 1))) else (none)) = some r := by first | (rw [hy405]; with_reducible exact H) | (have H2_ := (Option.bind_some _ _).symm.trans H; rw [hy405]; with_reducible exact H2_) | (have H2_ := (Option.bind_some _ _).symm.trans H; with_reducible exact H2_) | with_reducible exact H | (rw [hy405]; exact H) | exact H
     have Ny405 := Aside0.mk hy405; clear hy405; by_cases c19 : x3_1.length + y405.length < 140737488355328; rotate_left
     · rw [if_neg c19] at H; exact absurd H (by simp)
     rw [if_pos c19] at H; have LMc19 := Aside0.mk c19; clear c19
     obtain ⟨y408, hy408⟩ : ∃ y_ : List Int, y_ = (x3_1 ++ y405) := ⟨_, rfl⟩
     replace H : (belfryref04_Quote.l0 kj6 a0 y408 (wrap64 (x4_1 + 1))) = some r := by first | (rw [hy408]; with_reducible exact H) | (have H2_ := (Option.bind_some _ _).symm.trans H; rw [hy408]; with_reducible exact H2_) | (have H2_ := (Option.bind_some _ _).symm.trans H; with_reducible exact H2_) | with_reducible exact H | (rw [hy408]; exact H) | exact H
     have Ny408 := Aside0.mk hy408; clear hy408; have H' := Aside0.mk H; clear H
     go_wp2_with (first | ((with_reducible refine gate_dst (N := 33) rfl ?_); refine Kd.R_lit (Kd.int .u8) _ 5 ?hg (N := 33) ?hd (xs := ([92, 110] : List Int)) (inner := [.int .u8 92, .int .u8 110]) (ok := fun _ => True) (okp := fun _ => True) ?hr ?hp (fun _ hk => hk) trivial (Below.refl _ _) (Nat.le_refl _) (by simp) ?_; (case hd => rfl); (case hg => rfl); (case hr => first | (go_simp; done) | (go_simp; rfl)); (case hp => exact (Reps.one (show Kd.M (Kd.int .u8) _ _ _ 92 [.int .u8 92] from rfl) (Reps.one (show Kd.M (Kd.int .u8) _ _ _ 110 [.int .u8 110] from rfl) (Reps.none _ _)))); intro v406 w20 ho21 hb hg_ hnew_; clear hg_ hnew_; (first | rw [← Ny405.out] at ho21 | (simp only [Int.reduceToNat] at ho21; rw [← Ny405.out] at ho21)); have n0_ := Aside0.mk (Kd.R_elder' (by (with_reducible repeat (first | apply Kd.R_alloc | apply Kd.R_drewN | apply Kd.R_drew)); exact HO_3.out) (Kd.R_base ho21) hb); have n1_ := Aside0.mk (Kd.R_lower (Kd.R_new' ho21 (Kd.R_lt (by (with_reducible repeat (first | apply Kd.R_alloc | apply Kd.R_drewN | apply Kd.R_drew)); exact HO_3.out))) (below_size bO)); have n2_ := Aside0.mk (below_step bO hb); clear HO_3; clear HB; have HO_3 := n0_; have HO407 := n1_; have HB := n2_; clear n0_ n1_ n2_; clear hb ho21; obtain ⟨Ao23, co23, eo23⟩ := Kd.R_slice HO407.out; subst eo23) | ((with_reducible refine gate_builtin (b := .append) (xs := #[.tmp 32, .tmp 33]) rfl ?_); at_builtin; refine Kd.R_append_rows (Kd.int .u8) (w0 := w) w.heap.size rfl (.tmp 32) (.tmp 33) 74 5 (.int .u8 0) 1 rfl Tryz.underlying74 info5 rfl (by decide) (by omega) u3 x3_1 y405 _ _ _ (fun k_ => some k_ ≠ (.slice Ao23 y405.length co23 : Value).ownBlock) (fun _ => False) rfl rfl ?aO ?aR (fun _ _ h => h) (fun _ h => h.elim) ?aF ?aB ?aS ?aL ?_; (case aR => repeat (first | exact (Kd.R_reads' HO407.out).2.2 | (with_reducible refine Kd.C_alloc ?_ _) | (with_reducible refine Kd.C_drewN ?_ _) | (with_reducible refine Kd.C_drew ?_))); (case aB => exact bO); (case aF => exact (fun k_ hk => Kd.fresh' (Kd.R_lt (by (with_reducible repeat (first | apply Kd.R_alloc | apply Kd.R_drewN | apply Kd.R_drew)); exact HO407.out)) k_ hk)); (case aO => exact (by (with_reducible repeat (first | apply Kd.R_alloc | apply Kd.R_drewN | apply Kd.R_drew)); exact Kd.R_mono HO_3.out (fun _ hk => hk.2))); (case aS => exact (below_size bO)); (case aL => have := LMc19.out; omega); intro v409 w22 ho hb hg hat; rw [← Ny408.out] at ho; have n0_ := Aside0.mk (Kd.R_after (ok := (fun _ => True)) (by (with_reducible repeat (first | apply Kd.R_alloc | apply Kd.R_drewN | apply Kd.R_drew)); exact HO407.out) hg hat); have n1_ := Aside0.mk (hb); have n2_ := Aside0.mk (ho); clear HO407; clear HB; clear HO_3; have HO407 := n0_; have HB := n1_; have HO410 := n2_; clear n0_ n1_ n2_; clear ho hb hg hat))
     go_roundg kj6
     case measure => have := HK1.out; have := HJ6.out; omega
     case rel => exact ⟨(y408), (wrap64 (x4_1 + 1)), sR, H', ⟨by have := HK1.out; have := HJ6.out; omega⟩, ⟨by (with_reducible repeat (first | apply Kd.R_alloc | apply Kd.R_drewN | apply Kd.R_drew)); exact Kd.R_mono HO410.out (fun _ hk => trivial)⟩, ⟨bO⟩⟩
end Go.Proofs.YtkedidjjhhjdbaaGreatDoor.Pr
