import Derived.Test.YtnfanpjfhdlddaaGreatDoorQPicks5
import Derived.Test.YtnfanpjfhdlddaaGreatDoorQPicks10
import Derived.Test.YtnfanpjfhdlddaaGreatDoorQPicks11
import Derived.Shelf.Strings.Builder1
import Derived.Shelf.Strings.Builder2
import Derived.Shelf.Strings.OnBuilder
import Derived.Shelf.Small.Bits
import Derived.Shelf.Small.Strs
import Derived.Shelf.Strings.BuilderF
import Derived.Shelf.Strings.BuilderK
import Derived.Shelf.Strconv.Itoa0
import Derived.Shelf.Strings.Search1
import Derived.Shelf.Strings.Search2
import Derived.Shelf.Strings.Search3
import Derived.Shelf.Strings.Count
import Derived.Shelf.LaysM
import Derived.Shelf.Strings.Shaped
import Derived.Test.YtnfanpjfhdlddaaGreatDoorProg
section
namespace Go.Proofs.YtnfanpjfhdlddaaGreatDoor.Pr
open Go.RowKit Go.Proofs.YtnfanpjfhdlddaaGreatDoorW.PrintWords Go.Proofs.YtnfanpjfhdlddaaGreatDoorW.PrintLast Go.Proofs.YtnfanpjfhdlddaaGreatDoorW.PrintMore
attribute [local go_sem] max2_int min2_int max_two min_two max_three min_three max_four min_four strGtr strLeq strGeq
set_option linter.unusedVariables false
set_option linter.unusedSimpArgs false
def attr_sign.f (a0 : Int) : Option (ByteArray) := if a0 = 1 then (some (⟨#[61]⟩ : ByteArray)) else (if a0 = 2 then (some (⟨#[33, 61]⟩ : ByteArray)) else (if a0 = 3 then (some (⟨#[61, 126]⟩ : ByteArray)) else (if a0 = 4 then (some (⟨#[33, 126]⟩ : ByteArray)) else (some (⟨#[]⟩ : ByteArray)))))
set_option maxHeartbeats 8000000 in
set_option maxRecDepth 100000 in
theorem attr_sign.calls (a0 : Int) (r : ByteArray) (w : World) (h : attr_sign.f a0 = some r) :
  Calls Tryz.prog 65 #[.int .i64 a0] w fun e w' => e = .returned (.string r) ∧ Drawn0 w w' := by
 have H : (if a0 = 1 then (some (⟨#[61]⟩ : ByteArray)) else (if a0 = 2 then (some (⟨#[33, 61]⟩ : ByteArray)) else (if a0 = 3 then (some (⟨#[61, 126]⟩ : ByteArray)) else (if a0 = 4 then (some (⟨#[33, 126]⟩ : ByteArray)) else (some (⟨#[]⟩ : ByteArray)))))) = some r := h
 clear h
 by_cases c2 : a0 = 1
 ·
  rw [if_pos c2] at H
  have c2b0 : (a0 == 1) = true := beq_iff_eq.mpr c2
  have c2b1 : (a0 != 1) = false := bne_eq_false_iff_eq.mpr c2
  clear c2
  obtain rfl := Option.some.inj H
  go_enter Tryz.func65, Tryz.ntmps65
  go_wp2
  go_ret
  exact ⟨by first | rfl | (simp; done) | (simp [*]; done), by repeat (first | exact Drawn0.refl _ | apply Drawn0.step)⟩
 ·
  rw [if_neg c2] at H
  have c2b0 : (a0 == 1) = false := beq_eq_false_iff_ne.mpr c2
  have c2b1 : (a0 != 1) = true := bne_iff_ne.mpr c2
  by_cases c3 : a0 = 2
  ·
   rw [if_pos c3] at H
   have c3b0 : (a0 == 2) = true := beq_iff_eq.mpr c3
   have c3b1 : (a0 != 2) = false := bne_eq_false_iff_eq.mpr c3
   clear c3
   obtain rfl := Option.some.inj H
   go_enter Tryz.func65, Tryz.ntmps65
   go_wp2
   go_ret
   exact ⟨by first | rfl | (simp; done) | (simp [*]; done), by repeat (first | exact Drawn0.refl _ | apply Drawn0.step)⟩
  ·
   rw [if_neg c3] at H
   have c3b0 : (a0 == 2) = false := beq_eq_false_iff_ne.mpr c3
   have c3b1 : (a0 != 2) = true := bne_iff_ne.mpr c3
   by_cases c4 : a0 = 3
   ·
    rw [if_pos c4] at H
    have c4b0 : (a0 == 3) = true := beq_iff_eq.mpr c4
    have c4b1 : (a0 != 3) = false := bne_eq_false_iff_eq.mpr c4
    clear c4
    obtain rfl := Option.some.inj H
    go_enter Tryz.func65, Tryz.ntmps65
    go_wp2
    go_ret
    exact ⟨by first | rfl | (simp; done) | (simp [*]; done), by repeat (first | exact Drawn0.refl _ | apply Drawn0.step)⟩
   ·
    rw [if_neg c4] at H
    have c4b0 : (a0 == 3) = false := beq_eq_false_iff_ne.mpr c4
    have c4b1 : (a0 != 3) = true := bne_iff_ne.mpr c4
    by_cases c5 : a0 = 4
    ·
     rw [if_pos c5] at H
     have c5b0 : (a0 == 4) = true := beq_iff_eq.mpr c5
     have c5b1 : (a0 != 4) = false := bne_eq_false_iff_eq.mpr c5
     clear c5
     obtain rfl := Option.some.inj H
     go_enter Tryz.func65, Tryz.ntmps65
     go_wp2
     go_ret
     exact ⟨by first | rfl | (simp; done) | (simp [*]; done), by repeat (first | exact Drawn0.refl _ | apply Drawn0.step)⟩
    ·
     rw [if_neg c5] at H
     have c5b0 : (a0 == 4) = false := beq_eq_false_iff_ne.mpr c5
     have c5b1 : (a0 != 4) = true := bne_iff_ne.mpr c5
     obtain rfl := Option.some.inj H
     go_enter Tryz.func65, Tryz.ntmps65
     go_wp2
     go_ret
     exact ⟨by first | rfl | (simp; done) | (simp [*]; done), by repeat (first | exact Drawn0.refl _ | apply Drawn0.step)⟩
def attr_reader_op.l0 : Nat → List Int → Int → Int → ByteArray → Int → Bool → Option (Int × ByteArray × Int × Bool)
  | 0, _, _, _, _, _, _ => none
  | k + 1, x5, x6, x7, x1000, x1001, x1002 => if x7 < x6 then (if 0 ≤ x7 then (if x7 < (x5.length : Int) then ((attr_sign.f (rd x5 x7)).bind fun t204 => ((attr_reader_take.f x1000 x1001 x1002 t204).bind fun bt205 => (if bt205.1 = true then (some (rd x5 x7, bt205.2.1, bt205.2.2.1, bt205.2.2.2)) else (attr_reader_op.l0 k x5 x6 (wrap64 (x7 + 1)) bt205.2.1 bt205.2.2.1 bt205.2.2.2)))) else (none)) else (none)) else (if x1002 = true then (some (0, x1000, x1001, true)) else ((attr_reader_peek.f x1000 x1001 x1002).bind fun t202 => (if t202 = 33 then (if x1001 < (x1000.size : Int) then (some (0, x1000, wrap64 (x1001 + 1), true)) else (some (0, x1000, x1001, true))) else (some (0, x1000, x1001, true)))))
def attr_reader_op.f (k : Nat) (s0_0 : ByteArray) (s0_1 : Int) (s0_2 : Bool) : Option (Int × ByteArray × Int × Bool) := (some (([3, 4, 2, 1] : List Int) : List Int)).bind fun y199 => (attr_reader_op.l0 k y199 (y199.length : Int) 0 s0_0 s0_1 s0_2)
theorem attr_reader_op.mono_l : ∀ k, (∀ y0 y1 y2 y3 y4 y5, LeO (attr_reader_op.l0 k y0 y1 y2 y3 y4 y5) (attr_reader_op.l0 (k + 1) y0 y1 y2 y3 y4 y5))
 | 0 => fun _ _ _ _ _ _ r h => by simp [attr_reader_op.l0] at h
 | k + 1 => by
  have ih0 := attr_reader_op.mono_l k
  ·
   intro y0 y1 y2 y3 y4 y5
   unfold attr_reader_op.l0
   repeat' first
   | (with_reducible exact ih0 _ _ _ _ _ _)
   | (with_reducible exact LeO.refl _)
   | (with_reducible exact LeO.none _)
   | (with_reducible refine LeO.ite ?_ ?_)
   | (with_reducible refine LeO.bind ?_ (fun _ => ?_))
   | exact ih0 _ _ _ _ _ _
   | exact LeO.none _
   | refine LeO.ite ?_ ?_
   | refine LeO.bind ?_ (fun _ => ?_)
theorem attr_reader_op.mono : ∀ a0 a1 a2 k, LeO (attr_reader_op.f k a0 a1 a2) (attr_reader_op.f (k + 1) a0 a1 a2) := by
 intro a0 a1 a2 k
 have ih0 := attr_reader_op.mono_l k
 unfold attr_reader_op.f
 repeat' first
   | (with_reducible exact ih0 _ _ _ _ _ _)
   | (with_reducible exact LeO.refl _)
   | (with_reducible exact LeO.none _)
   | (with_reducible refine LeO.ite ?_ ?_)
   | (with_reducible refine LeO.bind ?_ (fun _ => ?_))
   | exact ih0 _ _ _ _ _ _
   | exact LeO.none _
   | refine LeO.ite ?_ ?_
   | refine LeO.bind ?_ (fun _ => ?_)
set_option maxHeartbeats 8000000 in
set_option maxRecDepth 100000 in
theorem attr_reader_op.calls (k : Nat) (g : Nat) (s0_0 : ByteArray) (s0_1 : Int) (s0_2 : Bool) (r1 : Int) (r2 : ByteArray) (r3 : Int) (r4 : Bool) (w0 w : World) (hI : IsS103 w0 w g s0_0 s0_1 s0_2) (hB : Below w0.heap.size w0 w) (h : attr_reader_op.f k s0_0 s0_1 s0_2 = some (r1, r2, r3, r4)) :
  Calls Tryz.prog 103 #[.pointer (some ⟨g, 0, none⟩)] w fun e w' => e = .returned (.int .i64 r1) ∧ IsS103 w0 w' g r2 r3 r4 ∧ Below w0.heap.size w0 w' ∧ KeepBut w w' g none := by
 have HI0 := Aside0.mk hI
 have HK := Aside0.mk (KeepBut.refl w g none)
 have HL := Aside0.mk hB.size
 clear hI
 have HW0 := Aside0.mk hB.size
 have HB := Aside0.mk hB
 clear hB
 have H : ((some (([3, 4, 2, 1] : List Int) : List Int)).bind fun y199 => (attr_reader_op.l0 k y199 (y199.length : Int) 0 s0_0 s0_1 s0_2)) = some (r1, r2, r3, r4) := h
 clear h
 obtain ⟨y199, hy199⟩ : ∃ y_ : List Int, y_ = (([3, 4, 2, 1] : List Int)) := ⟨_, rfl⟩
 replace H : (attr_reader_op.l0 k y199 (y199.length : Int) 0 s0_0 s0_1 s0_2) = some (r1, r2, r3, r4) := by first | (rw [hy199]; with_reducible exact H) | (have H2_ := (Option.bind_some _ _).symm.trans H; rw [hy199]; with_reducible exact H2_) | (have H2_ := (Option.bind_some _ _).symm.trans H; with_reducible exact H2_) | with_reducible exact H | (rw [hy199]; exact H) | exact H
 have Ny199 := Aside0.mk hy199
 clear hy199
 have H' := Aside0.mk H
 clear H
 go_enter Tryz.func103, Tryz.ntmps103
 go_wp2_with (first | ((with_reducible refine gate_dst (N := 5) rfl ?_); (try (refine gate_guard (by rfl) ?_; dsimp only)); refine Kd.R_lit (Kd.int .i64) _ 3 ?hg (N := 5) ?hd (xs := ([3, 4, 2, 1] : List Int)) (inner := [.int .i64 3, .int .i64 4, .int .i64 2, .int .i64 1]) (ok := fun _ => True) (okp := fun _ => True) ?hr ?hp (fun _ hk => hk) trivial (Below.refl _ _) (Nat.le_refl _) (by simp) ?_; (case hd => rfl); (case hg => rfl); (case hr => first | (go_simp; done) | (go_simp; rfl)); (case hp => exact (Reps.one (show Kd.M (Kd.int .i64) _ _ _ 3 [.int .i64 3] from rfl) (Reps.one (show Kd.M (Kd.int .i64) _ _ _ 4 [.int .i64 4] from rfl) (Reps.one (show Kd.M (Kd.int .i64) _ _ _ 2 [.int .i64 2] from rfl) (Reps.one (show Kd.M (Kd.int .i64) _ _ _ 1 [.int .i64 1] from rfl) (Reps.none _ _)))))); intro v200 w2 ho3 hb hg_ hnew_; clear hg_ hnew_; (first | rw [← Ny199.out] at ho3 | (simp only [Int.reduceToNat] at ho3; rw [← Ny199.out] at ho3)); have n0_ := Aside0.mk (Kd.R_lower ho3 (keep_size (w := w) (g := g) (row := none) (by repeat (first | (with_reducible first | exact HK.out | apply KeepBut.set_ | apply keep_drewN | apply keep_drew | apply keep_alloc) | exact HK.out)))); have n1_ := Aside0.mk (IsS103.below (by repeat (first | (with_reducible first | exact HI0.out | apply IsS103.alloc | apply IsS103.drewN | apply IsS103.drew | apply IsS103.set_0 | apply IsS103.set_1 | apply IsS103.set_2) | exact HI0.out)) hb); have n2_ := Aside0.mk (KeepBut.trans (by repeat (first | (with_reducible first | exact HK.out | apply KeepBut.set_ | apply keep_drewN | apply keep_drew | apply keep_alloc) | exact HK.out)) (KeepBut.of_below hb g none) (.inl rfl)); have n3_ := Aside0.mk (below_step (by repeat (first | (with_reducible first | exact HB.out | apply below_alloc | apply pw_below_drewN | apply below_drew1 | refine below_set ?_ (IsS103.ge HI0.out)) | exact HB.out)) hb); clear HI0; clear HK; clear HB; have HO201 := n0_; have HI0 := n1_; have HK := n2_; have HB := n3_; clear n0_ n1_ n2_ n3_; clear hb ho3; obtain ⟨Ao4, co4, eo4⟩ := Kd.R_slice HO201.out; subst eo4))
 repeat (go_quiet (first | ((with_reducible refine gate_dst (N := 5) rfl ?_); (try (refine gate_guard (by rfl) ?_; dsimp only)); refine Kd.R_lit (Kd.int .i64) _ 3 ?hg (N := 5) ?hd (xs := ([3, 4, 2, 1] : List Int)) (inner := [.int .i64 3, .int .i64 4, .int .i64 2, .int .i64 1]) (ok := fun _ => True) (okp := fun _ => True) ?hr ?hp (fun _ hk => hk) trivial (Below.refl _ _) (Nat.le_refl _) (by simp) ?_; (case hd => rfl); (case hg => rfl); (case hr => first | (go_simp; done) | (go_simp; rfl)); (case hp => exact (Reps.one (show Kd.M (Kd.int .i64) _ _ _ 3 [.int .i64 3] from rfl) (Reps.one (show Kd.M (Kd.int .i64) _ _ _ 4 [.int .i64 4] from rfl) (Reps.one (show Kd.M (Kd.int .i64) _ _ _ 2 [.int .i64 2] from rfl) (Reps.one (show Kd.M (Kd.int .i64) _ _ _ 1 [.int .i64 1] from rfl) (Reps.none _ _)))))); intro v200 w2 ho3 hb hg_ hnew_; clear hg_ hnew_; (first | rw [← Ny199.out] at ho3 | (simp only [Int.reduceToNat] at ho3; rw [← Ny199.out] at ho3)); have n0_ := Aside0.mk (Kd.R_lower ho3 (keep_size (w := w) (g := g) (row := none) (by repeat (first | (with_reducible first | exact HK.out | apply KeepBut.set_ | apply keep_drewN | apply keep_drew | apply keep_alloc) | exact HK.out)))); have n1_ := Aside0.mk (IsS103.below (by repeat (first | (with_reducible first | exact HI0.out | apply IsS103.alloc | apply IsS103.drewN | apply IsS103.drew | apply IsS103.set_0 | apply IsS103.set_1 | apply IsS103.set_2) | exact HI0.out)) hb); have n2_ := Aside0.mk (KeepBut.trans (by repeat (first | (with_reducible first | exact HK.out | apply KeepBut.set_ | apply keep_drewN | apply keep_drew | apply keep_alloc) | exact HK.out)) (KeepBut.of_below hb g none) (.inl rfl)); have n3_ := Aside0.mk (below_step (by repeat (first | (with_reducible first | exact HB.out | apply below_alloc | apply pw_below_drewN | apply below_drew1 | refine below_set ?_ (IsS103.ge HI0.out)) | exact HB.out)) hb); clear HI0; clear HK; clear HB; have HO201 := n0_; have HI0 := n1_; have HK := n2_; have HB := n3_; clear n0_ n1_ n2_ n3_; clear hb ho3; obtain ⟨Ao4, co4, eo4⟩ := Kd.R_slice HO201.out; subst eo4)); try go_wp2_with (first | ((with_reducible refine gate_dst (N := 5) rfl ?_); (try (refine gate_guard (by rfl) ?_; dsimp only)); refine Kd.R_lit (Kd.int .i64) _ 3 ?hg (N := 5) ?hd (xs := ([3, 4, 2, 1] : List Int)) (inner := [.int .i64 3, .int .i64 4, .int .i64 2, .int .i64 1]) (ok := fun _ => True) (okp := fun _ => True) ?hr ?hp (fun _ hk => hk) trivial (Below.refl _ _) (Nat.le_refl _) (by simp) ?_; (case hd => rfl); (case hg => rfl); (case hr => first | (go_simp; done) | (go_simp; rfl)); (case hp => exact (Reps.one (show Kd.M (Kd.int .i64) _ _ _ 3 [.int .i64 3] from rfl) (Reps.one (show Kd.M (Kd.int .i64) _ _ _ 4 [.int .i64 4] from rfl) (Reps.one (show Kd.M (Kd.int .i64) _ _ _ 2 [.int .i64 2] from rfl) (Reps.one (show Kd.M (Kd.int .i64) _ _ _ 1 [.int .i64 1] from rfl) (Reps.none _ _)))))); intro v200 w2 ho3 hb hg_ hnew_; clear hg_ hnew_; (first | rw [← Ny199.out] at ho3 | (simp only [Int.reduceToNat] at ho3; rw [← Ny199.out] at ho3)); have n0_ := Aside0.mk (Kd.R_lower ho3 (keep_size (w := w) (g := g) (row := none) (by repeat (first | (with_reducible first | exact HK.out | apply KeepBut.set_ | apply keep_drewN | apply keep_drew | apply keep_alloc) | exact HK.out)))); have n1_ := Aside0.mk (IsS103.below (by repeat (first | (with_reducible first | exact HI0.out | apply IsS103.alloc | apply IsS103.drewN | apply IsS103.drew | apply IsS103.set_0 | apply IsS103.set_1 | apply IsS103.set_2) | exact HI0.out)) hb); have n2_ := Aside0.mk (KeepBut.trans (by repeat (first | (with_reducible first | exact HK.out | apply KeepBut.set_ | apply keep_drewN | apply keep_drew | apply keep_alloc) | exact HK.out)) (KeepBut.of_below hb g none) (.inl rfl)); have n3_ := Aside0.mk (below_step (by repeat (first | (with_reducible first | exact HB.out | apply below_alloc | apply pw_below_drewN | apply below_drew1 | refine below_set ?_ (IsS103.ge HI0.out)) | exact HB.out)) hb); clear HI0; clear HK; clear HB; have HO201 := n0_; have HI0 := n1_; have HK := n2_; have HB := n3_; clear n0_ n1_ n2_ n3_; clear hb ho3; obtain ⟨Ao4, co4, eo4⟩ := Kd.R_slice HO201.out; subst eo4)))
 go_loopg [7] k (fun kq v7 w' => ∃ (x7_1 : Int) (x1000_1 : ByteArray) (x1001_1 : Int) (x1002_1 : Bool), v7 = .int .i64 x7_1 ∧ Aside0 (attr_reader_op.l0 kq y199 (y199.length : Int) x7_1 x1000_1 x1001_1 x1002_1 = some (r1, r2, r3, r4)) ∧ Aside0 (kq ≤ k) ∧ Aside0 (Kd.R (Kd.int .i64) 3 w' w.heap.size (fun _ => True) (.slice Ao4 y199.length co4) y199) ∧ Aside0 (IsS103 w0 w' g x1000_1 x1001_1 x1002_1) ∧ Aside0 (KeepBut w w' g none) ∧ Aside0 (Below w0.heap.size w0 w'))
 case atStart => exact ⟨(0), (s0_0), (s0_1), (s0_2), (by first | rfl | (simp; done) | (simp [*]; done)), H', ⟨Nat.le_refl _⟩, ⟨by (with_reducible repeat (first | apply Kd.R_alloc | apply Kd.R_drewN | apply Kd.R_drew)); exact HO201.out⟩, ⟨by repeat (first | (with_reducible first | exact HI0.out | apply IsS103.alloc | apply IsS103.drewN | apply IsS103.drew | apply IsS103.set_0 | apply IsS103.set_1 | apply IsS103.set_2) | exact HI0.out)⟩, ⟨by repeat (first | (with_reducible first | exact HK.out | apply KeepBut.set_ | apply keep_drewN | apply keep_drew | apply keep_alloc) | exact HK.out)⟩, ⟨by repeat (first | (with_reducible first | exact HB.out | apply below_alloc | apply pw_below_drewN | apply below_drew1 | refine below_set ?_ (IsS103.ge HI0.out)) | exact HB.out)⟩⟩
 case round =>
  clear H'
  try clear c1
  try clear p2
  obtain ⟨x7_1, x1000_1, x1001_1, x1002_1, rfl, HA, HK1, HO_5, HI0, HK, HB⟩ := hrel
  cases gk with
  | zero => exact absurd HA.out (by simp [attr_reader_op.l0])
  | succ k1 =>
   have H := HA.out
   clear HA
   simp only [attr_reader_op.l0] at H
   by_cases c5 : x7_1 < (y199.length : Int)
   ·
    rw [if_pos c5] at H
    have c5b0 : decide (x7_1 < (y199.length : Int)) = true := decide_eq_true c5
    clear c5
    by_cases c6 : 0 ≤ x7_1
    ·
     rw [if_pos c6] at H
     have c6b0 : decide (0 ≤ x7_1) = true := decide_eq_true c6
     clear c6
     by_cases c7 : x7_1 < (y199.length : Int)
     ·
      rw [if_pos c7] at H
      have c7b0 : decide (x7_1 < (y199.length : Int)) = true := decide_eq_true c7
      clear c7
      replace H := Option.bind_eq_some_iff.mp H
      obtain ⟨t204, A80, H⟩ := H
      replace H : ((attr_reader_take.f x1000_1 x1001_1 x1002_1 t204).bind fun bt205 => (if bt205.1 = true then (some (rd y199 x7_1, bt205.2.1, bt205.2.2.1, bt205.2.2.2)) else (attr_reader_op.l0 k1 y199 (y199.length : Int) (wrap64 (x7_1 + 1)) bt205.2.1 bt205.2.2.1 bt205.2.2.2))) = some (r1, r2, r3, r4) := H
      have A8 := Aside0.mk A80
      clear A80
      replace H := Option.bind_eq_some_iff.mp H
      obtain ⟨⟨t205, t206, t207, t208⟩, A90, H⟩ := H
      replace H : (if t205 = true then (some (rd y199 x7_1, t206, t207, t208)) else (attr_reader_op.l0 k1 y199 (y199.length : Int) (wrap64 (x7_1 + 1)) t206 t207 t208)) = some (r1, r2, r3, r4) := H
      have A9 := Aside0.mk A90
      clear A90
      by_cases c10 : t205 = true
      ·
       subst c10
       have H1 : (some (rd y199 x7_1, t206, t207, t208)) = some (r1, r2, r3, r4) := by rw [if_pos rfl] at H; exact H
       clear H
       have H := H1
       clear H1
       simp only [Option.some.injEq, Prod.mk.injEq] at H
       obtain ⟨rfl, rfl, rfl, rfl⟩ := H
       have p203 : 0 ≤ (x7_1 : Int) := of_decide_eq_true (by first | (with_reducible assumption) | assumption)
       have q203 : x7_1 < (y199.length : Int) := of_decide_eq_true (by first | (with_reducible assumption) | assumption)
       obtain ⟨ad203, e203, hx203_0⟩ := Kd.at_int (Kd.R_reads' HO_5.out).2.2 x7_1 p203 q203
       cases e203
       replace p203 := eq_true p203
       replace q203 := eq_true q203
       go_wp2_with (first | (go_at_call 65; (with_reducible refine (attr_sign.calls (rd y199 x7_1) t204 _ A8.out).mono ?_); rintro e w' ⟨rfl, ⟨nd, rfl⟩⟩; (try first | exact ⟨rfl, _, World.drewN_drewN _ _ _⟩ | exact ⟨rfl, _, Eq.trans (World.drewN_drewN _ _ _) (congrArg (World.drewN _) (Nat.add_assoc _ _ _))⟩)) | (go_at_call 101; (with_reducible refine (attr_reader_take.calls g x1000_1 x1001_1 x1002_1 t204 true t206 t207 t208 w0 _ ?side1 ?side2 A9.out).mono ?_); (case side1 => repeat (first | (with_reducible first | exact HI0.out | apply IsS103.alloc | apply IsS103.drewN | apply IsS103.drew | apply IsS103.set_0 | apply IsS103.set_1 | apply IsS103.set_2) | exact HI0.out)); (case side2 => repeat (first | (with_reducible first | exact HB.out | apply below_alloc | apply pw_below_drewN | apply below_drew1 | refine below_set ?_ (IsS103.ge HI0.out)) | exact HB.out)); rintro e w11 ⟨rfl, hi, hb, hk⟩; have n0_ := Aside0.mk (Kd.R_mono (Kd.R_keep (IsS103.apart (show IsS103 w0 _ g x1000_1 x1001_1 x1002_1 from by repeat (first | (with_reducible first | exact HI0.out | apply IsS103.alloc | apply IsS103.drewN | apply IsS103.drew | apply IsS103.set_0 | apply IsS103.set_1 | apply IsS103.set_2) | exact HI0.out)) (by (with_reducible repeat (first | apply Kd.R_alloc | apply Kd.R_drewN | apply Kd.R_drew)); exact HO_5.out) (by decide)) hk (fun _ h => h.2)) (fun _ h => h.1)); have n1_ := Aside0.mk (KeepBut.trans (by repeat (first | (with_reducible first | exact HK.out | apply KeepBut.set_ | apply keep_drewN | apply keep_drew | apply keep_alloc) | exact HK.out)) hk (.inl rfl)); have n2_ := Aside0.mk (hb); have n3_ := Aside0.mk (hi); clear HO_5; clear HK; clear HB; clear HI0; have HO_5 := n0_; have HK := n1_; have HB := n2_; have HI0 := n3_; clear n0_ n1_ n2_ n3_; (try clear hb); (try clear hb2); (try clear hk); (try clear hi)))
       repeat (go_quiet (first | (go_at_call 65; (with_reducible refine (attr_sign.calls (rd y199 x7_1) t204 _ A8.out).mono ?_); rintro e w' ⟨rfl, ⟨nd, rfl⟩⟩; (try first | exact ⟨rfl, _, World.drewN_drewN _ _ _⟩ | exact ⟨rfl, _, Eq.trans (World.drewN_drewN _ _ _) (congrArg (World.drewN _) (Nat.add_assoc _ _ _))⟩)) | (go_at_call 101; (with_reducible refine (attr_reader_take.calls g x1000_1 x1001_1 x1002_1 t204 true t206 t207 t208 w0 _ ?side1 ?side2 A9.out).mono ?_); (case side1 => repeat (first | (with_reducible first | exact HI0.out | apply IsS103.alloc | apply IsS103.drewN | apply IsS103.drew | apply IsS103.set_0 | apply IsS103.set_1 | apply IsS103.set_2) | exact HI0.out)); (case side2 => repeat (first | (with_reducible first | exact HB.out | apply below_alloc | apply pw_below_drewN | apply below_drew1 | refine below_set ?_ (IsS103.ge HI0.out)) | exact HB.out)); rintro e w11 ⟨rfl, hi, hb, hk⟩; have n0_ := Aside0.mk (Kd.R_mono (Kd.R_keep (IsS103.apart (show IsS103 w0 _ g x1000_1 x1001_1 x1002_1 from by repeat (first | (with_reducible first | exact HI0.out | apply IsS103.alloc | apply IsS103.drewN | apply IsS103.drew | apply IsS103.set_0 | apply IsS103.set_1 | apply IsS103.set_2) | exact HI0.out)) (by (with_reducible repeat (first | apply Kd.R_alloc | apply Kd.R_drewN | apply Kd.R_drew)); exact HO_5.out) (by decide)) hk (fun _ h => h.2)) (fun _ h => h.1)); have n1_ := Aside0.mk (KeepBut.trans (by repeat (first | (with_reducible first | exact HK.out | apply KeepBut.set_ | apply keep_drewN | apply keep_drew | apply keep_alloc) | exact HK.out)) hk (.inl rfl)); have n2_ := Aside0.mk (hb); have n3_ := Aside0.mk (hi); clear HO_5; clear HK; clear HB; clear HI0; have HO_5 := n0_; have HK := n1_; have HB := n2_; have HI0 := n3_; clear n0_ n1_ n2_ n3_; (try clear hb); (try clear hb2); (try clear hk); (try clear hi))); try go_wp2_with (first | (go_at_call 65; (with_reducible refine (attr_sign.calls (rd y199 x7_1) t204 _ A8.out).mono ?_); rintro e w' ⟨rfl, ⟨nd, rfl⟩⟩; (try first | exact ⟨rfl, _, World.drewN_drewN _ _ _⟩ | exact ⟨rfl, _, Eq.trans (World.drewN_drewN _ _ _) (congrArg (World.drewN _) (Nat.add_assoc _ _ _))⟩)) | (go_at_call 101; (with_reducible refine (attr_reader_take.calls g x1000_1 x1001_1 x1002_1 t204 true t206 t207 t208 w0 _ ?side1 ?side2 A9.out).mono ?_); (case side1 => repeat (first | (with_reducible first | exact HI0.out | apply IsS103.alloc | apply IsS103.drewN | apply IsS103.drew | apply IsS103.set_0 | apply IsS103.set_1 | apply IsS103.set_2) | exact HI0.out)); (case side2 => repeat (first | (with_reducible first | exact HB.out | apply below_alloc | apply pw_below_drewN | apply below_drew1 | refine below_set ?_ (IsS103.ge HI0.out)) | exact HB.out)); rintro e w11 ⟨rfl, hi, hb, hk⟩; have n0_ := Aside0.mk (Kd.R_mono (Kd.R_keep (IsS103.apart (show IsS103 w0 _ g x1000_1 x1001_1 x1002_1 from by repeat (first | (with_reducible first | exact HI0.out | apply IsS103.alloc | apply IsS103.drewN | apply IsS103.drew | apply IsS103.set_0 | apply IsS103.set_1 | apply IsS103.set_2) | exact HI0.out)) (by (with_reducible repeat (first | apply Kd.R_alloc | apply Kd.R_drewN | apply Kd.R_drew)); exact HO_5.out) (by decide)) hk (fun _ h => h.2)) (fun _ h => h.1)); have n1_ := Aside0.mk (KeepBut.trans (by repeat (first | (with_reducible first | exact HK.out | apply KeepBut.set_ | apply keep_drewN | apply keep_drew | apply keep_alloc) | exact HK.out)) hk (.inl rfl)); have n2_ := Aside0.mk (hb); have n3_ := Aside0.mk (hi); clear HO_5; clear HK; clear HB; clear HI0; have HO_5 := n0_; have HK := n1_; have HB := n2_; have HI0 := n3_; clear n0_ n1_ n2_ n3_; (try clear hb); (try clear hb2); (try clear hk); (try clear hi))))
       go_ret
       exact ⟨by first | rfl | (simp [errW_none, errW_some] <;> rfl) | (simp [*, errW_none, errW_some] <;> rfl), by repeat (first | (with_reducible first | exact HI0.out | apply IsS103.alloc | apply IsS103.drewN | apply IsS103.drew | apply IsS103.set_0 | apply IsS103.set_1 | apply IsS103.set_2) | exact HI0.out), by repeat (first | (with_reducible first | exact HB.out | apply below_alloc | apply pw_below_drewN | apply below_drew1 | refine below_set ?_ (IsS103.ge HI0.out)) | exact HB.out), by repeat (first | (with_reducible first | exact HK.out | apply KeepBut.set_ | apply keep_drewN | apply keep_drew | apply keep_alloc) | exact HK.out)⟩
      ·
       replace c10 := Bool.eq_false_iff.mpr c10
       subst c10
       have H1 : (attr_reader_op.l0 k1 y199 (y199.length : Int) (wrap64 (x7_1 + 1)) t206 t207 t208) = some (r1, r2, r3, r4) := by rw [if_neg (show ¬ (false = true) by decide)] at H; exact H
       clear H
       have H := H1
       clear H1
       have H' := Aside0.mk H
       clear H
       have p203 : 0 ≤ (x7_1 : Int) := of_decide_eq_true (by first | (with_reducible assumption) | assumption)
       have q203 : x7_1 < (y199.length : Int) := of_decide_eq_true (by first | (with_reducible assumption) | assumption)
       obtain ⟨ad203, e203, hx203_0⟩ := Kd.at_int (Kd.R_reads' HO_5.out).2.2 x7_1 p203 q203
       cases e203
       replace p203 := eq_true p203
       replace q203 := eq_true q203
       go_wp2_with (first | (go_at_call 65; (with_reducible refine (attr_sign.calls (rd y199 x7_1) t204 _ A8.out).mono ?_); rintro e w' ⟨rfl, ⟨nd, rfl⟩⟩; (try first | exact ⟨rfl, _, World.drewN_drewN _ _ _⟩ | exact ⟨rfl, _, Eq.trans (World.drewN_drewN _ _ _) (congrArg (World.drewN _) (Nat.add_assoc _ _ _))⟩)) | (go_at_call 101; (with_reducible refine (attr_reader_take.calls g x1000_1 x1001_1 x1002_1 t204 false t206 t207 t208 w0 _ ?side1 ?side2 A9.out).mono ?_); (case side1 => repeat (first | (with_reducible first | exact HI0.out | apply IsS103.alloc | apply IsS103.drewN | apply IsS103.drew | apply IsS103.set_0 | apply IsS103.set_1 | apply IsS103.set_2) | exact HI0.out)); (case side2 => repeat (first | (with_reducible first | exact HB.out | apply below_alloc | apply pw_below_drewN | apply below_drew1 | refine below_set ?_ (IsS103.ge HI0.out)) | exact HB.out)); rintro e w12 ⟨rfl, hi, hb, hk⟩; have n0_ := Aside0.mk (Kd.R_mono (Kd.R_keep (IsS103.apart (show IsS103 w0 _ g x1000_1 x1001_1 x1002_1 from by repeat (first | (with_reducible first | exact HI0.out | apply IsS103.alloc | apply IsS103.drewN | apply IsS103.drew | apply IsS103.set_0 | apply IsS103.set_1 | apply IsS103.set_2) | exact HI0.out)) (by (with_reducible repeat (first | apply Kd.R_alloc | apply Kd.R_drewN | apply Kd.R_drew)); exact HO_5.out) (by decide)) hk (fun _ h => h.2)) (fun _ h => h.1)); have n1_ := Aside0.mk (KeepBut.trans (by repeat (first | (with_reducible first | exact HK.out | apply KeepBut.set_ | apply keep_drewN | apply keep_drew | apply keep_alloc) | exact HK.out)) hk (.inl rfl)); have n2_ := Aside0.mk (hb); have n3_ := Aside0.mk (hi); clear HO_5; clear HK; clear HB; clear HI0; have HO_5 := n0_; have HK := n1_; have HB := n2_; have HI0 := n3_; clear n0_ n1_ n2_ n3_; (try clear hb); (try clear hb2); (try clear hk); (try clear hi)))
       repeat (go_quiet (first | (go_at_call 65; (with_reducible refine (attr_sign.calls (rd y199 x7_1) t204 _ A8.out).mono ?_); rintro e w' ⟨rfl, ⟨nd, rfl⟩⟩; (try first | exact ⟨rfl, _, World.drewN_drewN _ _ _⟩ | exact ⟨rfl, _, Eq.trans (World.drewN_drewN _ _ _) (congrArg (World.drewN _) (Nat.add_assoc _ _ _))⟩)) | (go_at_call 101; (with_reducible refine (attr_reader_take.calls g x1000_1 x1001_1 x1002_1 t204 false t206 t207 t208 w0 _ ?side1 ?side2 A9.out).mono ?_); (case side1 => repeat (first | (with_reducible first | exact HI0.out | apply IsS103.alloc | apply IsS103.drewN | apply IsS103.drew | apply IsS103.set_0 | apply IsS103.set_1 | apply IsS103.set_2) | exact HI0.out)); (case side2 => repeat (first | (with_reducible first | exact HB.out | apply below_alloc | apply pw_below_drewN | apply below_drew1 | refine below_set ?_ (IsS103.ge HI0.out)) | exact HB.out)); rintro e w12 ⟨rfl, hi, hb, hk⟩; have n0_ := Aside0.mk (Kd.R_mono (Kd.R_keep (IsS103.apart (show IsS103 w0 _ g x1000_1 x1001_1 x1002_1 from by repeat (first | (with_reducible first | exact HI0.out | apply IsS103.alloc | apply IsS103.drewN | apply IsS103.drew | apply IsS103.set_0 | apply IsS103.set_1 | apply IsS103.set_2) | exact HI0.out)) (by (with_reducible repeat (first | apply Kd.R_alloc | apply Kd.R_drewN | apply Kd.R_drew)); exact HO_5.out) (by decide)) hk (fun _ h => h.2)) (fun _ h => h.1)); have n1_ := Aside0.mk (KeepBut.trans (by repeat (first | (with_reducible first | exact HK.out | apply KeepBut.set_ | apply keep_drewN | apply keep_drew | apply keep_alloc) | exact HK.out)) hk (.inl rfl)); have n2_ := Aside0.mk (hb); have n3_ := Aside0.mk (hi); clear HO_5; clear HK; clear HB; clear HI0; have HO_5 := n0_; have HK := n1_; have HB := n2_; have HI0 := n3_; clear n0_ n1_ n2_ n3_; (try clear hb); (try clear hb2); (try clear hk); (try clear hi))); try go_wp2_with (first | (go_at_call 65; (with_reducible refine (attr_sign.calls (rd y199 x7_1) t204 _ A8.out).mono ?_); rintro e w' ⟨rfl, ⟨nd, rfl⟩⟩; (try first | exact ⟨rfl, _, World.drewN_drewN _ _ _⟩ | exact ⟨rfl, _, Eq.trans (World.drewN_drewN _ _ _) (congrArg (World.drewN _) (Nat.add_assoc _ _ _))⟩)) | (go_at_call 101; (with_reducible refine (attr_reader_take.calls g x1000_1 x1001_1 x1002_1 t204 false t206 t207 t208 w0 _ ?side1 ?side2 A9.out).mono ?_); (case side1 => repeat (first | (with_reducible first | exact HI0.out | apply IsS103.alloc | apply IsS103.drewN | apply IsS103.drew | apply IsS103.set_0 | apply IsS103.set_1 | apply IsS103.set_2) | exact HI0.out)); (case side2 => repeat (first | (with_reducible first | exact HB.out | apply below_alloc | apply pw_below_drewN | apply below_drew1 | refine below_set ?_ (IsS103.ge HI0.out)) | exact HB.out)); rintro e w12 ⟨rfl, hi, hb, hk⟩; have n0_ := Aside0.mk (Kd.R_mono (Kd.R_keep (IsS103.apart (show IsS103 w0 _ g x1000_1 x1001_1 x1002_1 from by repeat (first | (with_reducible first | exact HI0.out | apply IsS103.alloc | apply IsS103.drewN | apply IsS103.drew | apply IsS103.set_0 | apply IsS103.set_1 | apply IsS103.set_2) | exact HI0.out)) (by (with_reducible repeat (first | apply Kd.R_alloc | apply Kd.R_drewN | apply Kd.R_drew)); exact HO_5.out) (by decide)) hk (fun _ h => h.2)) (fun _ h => h.1)); have n1_ := Aside0.mk (KeepBut.trans (by repeat (first | (with_reducible first | exact HK.out | apply KeepBut.set_ | apply keep_drewN | apply keep_drew | apply keep_alloc) | exact HK.out)) hk (.inl rfl)); have n2_ := Aside0.mk (hb); have n3_ := Aside0.mk (hi); clear HO_5; clear HK; clear HB; clear HI0; have HO_5 := n0_; have HK := n1_; have HB := n2_; have HI0 := n3_; clear n0_ n1_ n2_ n3_; (try clear hb); (try clear hb2); (try clear hk); (try clear hi))))
       go_roundg k1
       case measure => have := HK1.out; omega
       case rel => exact ⟨(wrap64 (x7_1 + 1)), (t206), (t207), (t208), (by first | rfl | (simp; done) | (simp [*]; done)), H', ⟨by have := HK1.out; omega⟩, ⟨by (with_reducible repeat (first | apply Kd.R_alloc | apply Kd.R_drewN | apply Kd.R_drew)); exact HO_5.out⟩, ⟨by repeat (first | (with_reducible first | exact HI0.out | apply IsS103.alloc | apply IsS103.drewN | apply IsS103.drew | apply IsS103.set_0 | apply IsS103.set_1 | apply IsS103.set_2) | exact HI0.out)⟩, ⟨by repeat (first | (with_reducible first | exact HK.out | apply KeepBut.set_ | apply keep_drewN | apply keep_drew | apply keep_alloc) | exact HK.out)⟩, ⟨by repeat (first | (with_reducible first | exact HB.out | apply below_alloc | apply pw_below_drewN | apply below_drew1 | refine below_set ?_ (IsS103.ge HI0.out)) | exact HB.out)⟩⟩
     ·
      rw [if_neg c7] at H
      exact absurd H (by simp)
    ·
     rw [if_neg c6] at H
     exact absurd H (by simp)
   ·
    rw [if_neg c5] at H
    have c5b0 : decide (x7_1 < (y199.length : Int)) = false := decide_eq_false c5
    clear c5
    by_cases c13 : x1002_1 = true
    ·
     subst c13
     have H1 : (some (0, x1000_1, x1001_1, true)) = some (r1, r2, r3, r4) := by rw [if_pos rfl] at H; exact H
     clear H
     have H := H1
     clear H1
     simp only [Option.some.injEq, Prod.mk.injEq] at H
     obtain ⟨rfl, rfl, rfl, rfl⟩ := H
     obtain ⟨HGz14, hgz14⟩ := HI0.out
     have hcz14_0 := cellS103_0 HGz14
     have hcz14_1 := cellS103_1 HGz14
     have hcz14_2 := cellS103_2 HGz14
     have hfz14_0 := blk_frozen HGz14 0
     have hfz14_1 := blk_frozen HGz14 1
     have hfz14_2 := blk_frozen HGz14 2
     clear HGz14 hgz14
     go_wp2
     repeat (go_quiet (fail); try go_wp2)
     go_ret
     exact ⟨by first | rfl | (simp [errW_none, errW_some] <;> rfl) | (simp [*, errW_none, errW_some] <;> rfl), by repeat (first | (with_reducible first | exact HI0.out | apply IsS103.alloc | apply IsS103.drewN | apply IsS103.drew | apply IsS103.set_0 | apply IsS103.set_1 | apply IsS103.set_2) | exact HI0.out), by repeat (first | (with_reducible first | exact HB.out | apply below_alloc | apply pw_below_drewN | apply below_drew1 | refine below_set ?_ (IsS103.ge HI0.out)) | exact HB.out), by repeat (first | (with_reducible first | exact HK.out | apply KeepBut.set_ | apply keep_drewN | apply keep_drew | apply keep_alloc) | exact HK.out)⟩
    ·
     replace c13 := Bool.eq_false_iff.mpr c13
     subst c13
     have H1 : ((attr_reader_peek.f x1000_1 x1001_1 false).bind fun t202 => (if t202 = 33 then (if x1001_1 < (x1000_1.size : Int) then (some (0, x1000_1, wrap64 (x1001_1 + 1), true)) else (some (0, x1000_1, x1001_1, true))) else (some (0, x1000_1, x1001_1, true)))) = some (r1, r2, r3, r4) := by rw [if_neg (show ¬ (false = true) by decide)] at H; exact H
     clear H
     have H := H1
     clear H1
     replace H := Option.bind_eq_some_iff.mp H
     obtain ⟨t202, A150, H⟩ := H
     replace H : (if t202 = 33 then (if x1001_1 < (x1000_1.size : Int) then (some (0, x1000_1, wrap64 (x1001_1 + 1), true)) else (some (0, x1000_1, x1001_1, true))) else (some (0, x1000_1, x1001_1, true))) = some (r1, r2, r3, r4) := H
     have A15 := Aside0.mk A150
     clear A150
     by_cases c16 : t202 = 33
     ·
      rw [if_pos c16] at H
      have c16b0 : (t202 == 33) = true := beq_iff_eq.mpr c16
      have c16b1 : (t202 != 33) = false := bne_eq_false_iff_eq.mpr c16
      clear c16
      by_cases c17 : x1001_1 < (x1000_1.size : Int)
      ·
       rw [if_pos c17] at H
       have c17b0 : decide (x1001_1 < (x1000_1.size : Int)) = true := decide_eq_true c17
       clear c17
       simp only [Option.some.injEq, Prod.mk.injEq] at H
       obtain ⟨rfl, rfl, rfl, rfl⟩ := H
       obtain ⟨HGz18, hgz18⟩ := HI0.out
       have hcz18_0 := cellS103_0 HGz18
       have hcz18_1 := cellS103_1 HGz18
       have hcz18_2 := cellS103_2 HGz18
       have hfz18_0 := blk_frozen HGz18 0
       have hfz18_1 := blk_frozen HGz18 1
       have hfz18_2 := blk_frozen HGz18 2
       clear HGz18 hgz18
       go_wp2_with (first | (go_at_call 117; (with_reducible refine (attr_reader_peek.calls g x1000_1 x1001_1 false t202 w0 _ ?side1 ?side2 A15.out).mono ?_); (case side1 => repeat (first | (with_reducible first | exact HI0.out | apply IsS103.alloc | apply IsS103.drewN | apply IsS103.drew | apply IsS103.set_0 | apply IsS103.set_1 | apply IsS103.set_2) | exact HI0.out)); (case side2 => repeat (first | (with_reducible first | exact HB.out | apply below_alloc | apply pw_below_drewN | apply below_drew1 | refine below_set ?_ (IsS103.ge HI0.out)) | exact HB.out)); rintro e w' ⟨rfl, ⟨nd, rfl⟩⟩; (try first | exact ⟨rfl, _, World.drewN_drewN _ _ _⟩ | exact ⟨rfl, _, Eq.trans (World.drewN_drewN _ _ _) (congrArg (World.drewN _) (Nat.add_assoc _ _ _))⟩)))
       repeat (go_quiet (first | (go_at_call 117; (with_reducible refine (attr_reader_peek.calls g x1000_1 x1001_1 false t202 w0 _ ?side1 ?side2 A15.out).mono ?_); (case side1 => repeat (first | (with_reducible first | exact HI0.out | apply IsS103.alloc | apply IsS103.drewN | apply IsS103.drew | apply IsS103.set_0 | apply IsS103.set_1 | apply IsS103.set_2) | exact HI0.out)); (case side2 => repeat (first | (with_reducible first | exact HB.out | apply below_alloc | apply pw_below_drewN | apply below_drew1 | refine below_set ?_ (IsS103.ge HI0.out)) | exact HB.out)); rintro e w' ⟨rfl, ⟨nd, rfl⟩⟩; (try first | exact ⟨rfl, _, World.drewN_drewN _ _ _⟩ | exact ⟨rfl, _, Eq.trans (World.drewN_drewN _ _ _) (congrArg (World.drewN _) (Nat.add_assoc _ _ _))⟩))); try go_wp2_with (first | (go_at_call 117; (with_reducible refine (attr_reader_peek.calls g x1000_1 x1001_1 false t202 w0 _ ?side1 ?side2 A15.out).mono ?_); (case side1 => repeat (first | (with_reducible first | exact HI0.out | apply IsS103.alloc | apply IsS103.drewN | apply IsS103.drew | apply IsS103.set_0 | apply IsS103.set_1 | apply IsS103.set_2) | exact HI0.out)); (case side2 => repeat (first | (with_reducible first | exact HB.out | apply below_alloc | apply pw_below_drewN | apply below_drew1 | refine below_set ?_ (IsS103.ge HI0.out)) | exact HB.out)); rintro e w' ⟨rfl, ⟨nd, rfl⟩⟩; (try first | exact ⟨rfl, _, World.drewN_drewN _ _ _⟩ | exact ⟨rfl, _, Eq.trans (World.drewN_drewN _ _ _) (congrArg (World.drewN _) (Nat.add_assoc _ _ _))⟩))))
       go_ret
       exact ⟨by first | rfl | (simp [errW_none, errW_some] <;> rfl) | (simp [*, errW_none, errW_some] <;> rfl), by repeat (first | (with_reducible first | exact HI0.out | apply IsS103.alloc | apply IsS103.drewN | apply IsS103.drew | apply IsS103.set_0 | apply IsS103.set_1 | apply IsS103.set_2) | exact HI0.out), by repeat (first | (with_reducible first | exact HB.out | apply below_alloc | apply pw_below_drewN | apply below_drew1 | refine below_set ?_ (IsS103.ge HI0.out)) | exact HB.out), by repeat (first | (with_reducible first | exact HK.out | apply KeepBut.set_ | apply keep_drewN | apply keep_drew | apply keep_alloc) | exact HK.out)⟩
      ·
       rw [if_neg c17] at H
       have c17b0 : decide (x1001_1 < (x1000_1.size : Int)) = false := decide_eq_false c17
       clear c17
       simp only [Option.some.injEq, Prod.mk.injEq] at H
       obtain ⟨rfl, rfl, rfl, rfl⟩ := H
       obtain ⟨HGz19, hgz19⟩ := HI0.out
       have hcz19_0 := cellS103_0 HGz19
       have hcz19_1 := cellS103_1 HGz19
       have hcz19_2 := cellS103_2 HGz19
       have hfz19_0 := blk_frozen HGz19 0
       have hfz19_1 := blk_frozen HGz19 1
       have hfz19_2 := blk_frozen HGz19 2
       clear HGz19 hgz19
       go_wp2_with (first | (go_at_call 117; (with_reducible refine (attr_reader_peek.calls g x1000_1 x1001_1 false t202 w0 _ ?side1 ?side2 A15.out).mono ?_); (case side1 => repeat (first | (with_reducible first | exact HI0.out | apply IsS103.alloc | apply IsS103.drewN | apply IsS103.drew | apply IsS103.set_0 | apply IsS103.set_1 | apply IsS103.set_2) | exact HI0.out)); (case side2 => repeat (first | (with_reducible first | exact HB.out | apply below_alloc | apply pw_below_drewN | apply below_drew1 | refine below_set ?_ (IsS103.ge HI0.out)) | exact HB.out)); rintro e w' ⟨rfl, ⟨nd, rfl⟩⟩; (try first | exact ⟨rfl, _, World.drewN_drewN _ _ _⟩ | exact ⟨rfl, _, Eq.trans (World.drewN_drewN _ _ _) (congrArg (World.drewN _) (Nat.add_assoc _ _ _))⟩)))
       repeat (go_quiet (first | (go_at_call 117; (with_reducible refine (attr_reader_peek.calls g x1000_1 x1001_1 false t202 w0 _ ?side1 ?side2 A15.out).mono ?_); (case side1 => repeat (first | (with_reducible first | exact HI0.out | apply IsS103.alloc | apply IsS103.drewN | apply IsS103.drew | apply IsS103.set_0 | apply IsS103.set_1 | apply IsS103.set_2) | exact HI0.out)); (case side2 => repeat (first | (with_reducible first | exact HB.out | apply below_alloc | apply pw_below_drewN | apply below_drew1 | refine below_set ?_ (IsS103.ge HI0.out)) | exact HB.out)); rintro e w' ⟨rfl, ⟨nd, rfl⟩⟩; (try first | exact ⟨rfl, _, World.drewN_drewN _ _ _⟩ | exact ⟨rfl, _, Eq.trans (World.drewN_drewN _ _ _) (congrArg (World.drewN _) (Nat.add_assoc _ _ _))⟩))); try go_wp2_with (first | (go_at_call 117; (with_reducible refine (attr_reader_peek.calls g x1000_1 x1001_1 false t202 w0 _ ?side1 ?side2 A15.out).mono ?_); (case side1 => repeat (first | (with_reducible first | exact HI0.out | apply IsS103.alloc | apply IsS103.drewN | apply IsS103.drew | apply IsS103.set_0 | apply IsS103.set_1 | apply IsS103.set_2) | exact HI0.out)); (case side2 => repeat (first | (with_reducible first | exact HB.out | apply below_alloc | apply pw_below_drewN | apply below_drew1 | refine below_set ?_ (IsS103.ge HI0.out)) | exact HB.out)); rintro e w' ⟨rfl, ⟨nd, rfl⟩⟩; (try first | exact ⟨rfl, _, World.drewN_drewN _ _ _⟩ | exact ⟨rfl, _, Eq.trans (World.drewN_drewN _ _ _) (congrArg (World.drewN _) (Nat.add_assoc _ _ _))⟩))))
       go_ret
       exact ⟨by first | rfl | (simp [errW_none, errW_some] <;> rfl) | (simp [*, errW_none, errW_some] <;> rfl), by repeat (first | (with_reducible first | exact HI0.out | apply IsS103.alloc | apply IsS103.drewN | apply IsS103.drew | apply IsS103.set_0 | apply IsS103.set_1 | apply IsS103.set_2) | exact HI0.out), by repeat (first | (with_reducible first | exact HB.out | apply below_alloc | apply pw_below_drewN | apply below_drew1 | refine below_set ?_ (IsS103.ge HI0.out)) | exact HB.out), by repeat (first | (with_reducible first | exact HK.out | apply KeepBut.set_ | apply keep_drewN | apply keep_drew | apply keep_alloc) | exact HK.out)⟩
     ·
      rw [if_neg c16] at H
      have c16b0 : (t202 == 33) = false := beq_eq_false_iff_ne.mpr c16
      have c16b1 : (t202 != 33) = true := bne_iff_ne.mpr c16
      simp only [Option.some.injEq, Prod.mk.injEq] at H
      obtain ⟨rfl, rfl, rfl, rfl⟩ := H
      obtain ⟨HGz20, hgz20⟩ := HI0.out
      have hcz20_0 := cellS103_0 HGz20
      have hcz20_1 := cellS103_1 HGz20
      have hcz20_2 := cellS103_2 HGz20
      have hfz20_0 := blk_frozen HGz20 0
      have hfz20_1 := blk_frozen HGz20 1
      have hfz20_2 := blk_frozen HGz20 2
      clear HGz20 hgz20
      go_wp2_with (first | (go_at_call 117; (with_reducible refine (attr_reader_peek.calls g x1000_1 x1001_1 false t202 w0 _ ?side1 ?side2 A15.out).mono ?_); (case side1 => repeat (first | (with_reducible first | exact HI0.out | apply IsS103.alloc | apply IsS103.drewN | apply IsS103.drew | apply IsS103.set_0 | apply IsS103.set_1 | apply IsS103.set_2) | exact HI0.out)); (case side2 => repeat (first | (with_reducible first | exact HB.out | apply below_alloc | apply pw_below_drewN | apply below_drew1 | refine below_set ?_ (IsS103.ge HI0.out)) | exact HB.out)); rintro e w' ⟨rfl, ⟨nd, rfl⟩⟩; (try first | exact ⟨rfl, _, World.drewN_drewN _ _ _⟩ | exact ⟨rfl, _, Eq.trans (World.drewN_drewN _ _ _) (congrArg (World.drewN _) (Nat.add_assoc _ _ _))⟩)))
      repeat (go_quiet (first | (go_at_call 117; (with_reducible refine (attr_reader_peek.calls g x1000_1 x1001_1 false t202 w0 _ ?side1 ?side2 A15.out).mono ?_); (case side1 => repeat (first | (with_reducible first | exact HI0.out | apply IsS103.alloc | apply IsS103.drewN | apply IsS103.drew | apply IsS103.set_0 | apply IsS103.set_1 | apply IsS103.set_2) | exact HI0.out)); (case side2 => repeat (first | (with_reducible first | exact HB.out | apply below_alloc | apply pw_below_drewN | apply below_drew1 | refine below_set ?_ (IsS103.ge HI0.out)) | exact HB.out)); rintro e w' ⟨rfl, ⟨nd, rfl⟩⟩; (try first | exact ⟨rfl, _, World.drewN_drewN _ _ _⟩ | exact ⟨rfl, _, Eq.trans (World.drewN_drewN _ _ _) (congrArg (World.drewN _) (Nat.add_assoc _ _ _))⟩))); try go_wp2_with (first | (go_at_call 117; (with_reducible refine (attr_reader_peek.calls g x1000_1 x1001_1 false t202 w0 _ ?side1 ?side2 A15.out).mono ?_); (case side1 => repeat (first | (with_reducible first | exact HI0.out | apply IsS103.alloc | apply IsS103.drewN | apply IsS103.drew | apply IsS103.set_0 | apply IsS103.set_1 | apply IsS103.set_2) | exact HI0.out)); (case side2 => repeat (first | (with_reducible first | exact HB.out | apply below_alloc | apply pw_below_drewN | apply below_drew1 | refine below_set ?_ (IsS103.ge HI0.out)) | exact HB.out)); rintro e w' ⟨rfl, ⟨nd, rfl⟩⟩; (try first | exact ⟨rfl, _, World.drewN_drewN _ _ _⟩ | exact ⟨rfl, _, Eq.trans (World.drewN_drewN _ _ _) (congrArg (World.drewN _) (Nat.add_assoc _ _ _))⟩))))
      go_ret
      exact ⟨by first | rfl | (simp [errW_none, errW_some] <;> rfl) | (simp [*, errW_none, errW_some] <;> rfl), by repeat (first | (with_reducible first | exact HI0.out | apply IsS103.alloc | apply IsS103.drewN | apply IsS103.drew | apply IsS103.set_0 | apply IsS103.set_1 | apply IsS103.set_2) | exact HI0.out), by repeat (first | (with_reducible first | exact HB.out | apply below_alloc | apply pw_below_drewN | apply below_drew1 | refine below_set ?_ (IsS103.ge HI0.out)) | exact HB.out), by repeat (first | (with_reducible first | exact HK.out | apply KeepBut.set_ | apply keep_drewN | apply keep_drew | apply keep_alloc) | exact HK.out)⟩
end Go.Proofs.YtnfanpjfhdlddaaGreatDoor.Pr
end
section
namespace Go.Proofs
open Go.Shelf
def Tryz.lays169_ren : Go.Shelf.Ren := ⟨fun | 169 => 84 | n => n, fun | 70 => 107 | 9 => 9 | 0 => 0 | 72 => 110 | 37 => 108 | 127 => 146 | 3 => 3 | 5 => 5 | n => n, fun | n => n⟩
theorem Tryz.lays169 : Go.Proofs.Lays.n169 Tryz.prog Tryz.lays169_ren := {
 mixed := by kernel_rfl
 f169 := Tryz.func84.trans (congrArg some (by kernel_rfl))
 t0 := Tryz.underlying0
 a0 := Tryz.isAgg0
 z0 := Tryz.sizeOf0
 v0 := Tryz.zeroValue0
 t3 := Tryz.underlying3
 a3 := Tryz.isAgg3
 z3 := Tryz.sizeOf3
 v3 := Tryz.zeroValue3
 t9 := Tryz.underlying9
 a9 := Tryz.isAgg9
 z9 := Tryz.sizeOf9
 v9 := Tryz.zeroValue9
 t37 := Tryz.underlying108
 a37 := Tryz.isAgg108
 z37 := Tryz.sizeOf108
 v37 := Tryz.zeroValue108
 t70 := Tryz.underlying107
 a70 := Tryz.isAgg107
 z70 := Tryz.sizeOf107
 v70 := Tryz.zeroValue107
 t72 := Tryz.underlying110
 a72 := Tryz.isAgg110
 z72 := Tryz.sizeOf110
 v72 := Tryz.zeroValue110
 t127 := Tryz.underlying146
 a127 := Tryz.isAgg146
 z127 := Tryz.sizeOf146
 v127 := Tryz.zeroValue146 }
theorem Tryz.Builder_Extra_169 : Builder.Extra Tryz.prog Tryz.lays169_ren := {
 sizeBuilder := by kernel_rfl
 liesBuilder := by kernel_rfl
 t5 := Tryz.underlying5
 a5 := Tryz.isAgg5
 z5 := Tryz.sizeOf5
 v5 := Tryz.zeroValue5
 infoByte := by kernel_rfl
 cellsByte := by kernel_rfl
 sizeByte := by kernel_rfl
 neB5 := by decide }
open Go.RowKit in
theorem Tryz.Builder_String_any (B b : Nat) (l : List UInt8) (w : World) (h : Lib.IsBuilder 110 5 B b (Lib.byteCells l) w) (hBw : B ≤ w.heap.size) :
  Calls Tryz.prog 84 #[.pointer (some ⟨b, 0, none⟩)] w fun e w' => e = .returned (.string ⟨l.toArray⟩) ∧ Below B w w' := Any.Builder_String_any Tryz.lays169 Tryz.Builder_Extra_169 B b l w h hBw
def Tryz.lays156_ren : Go.Shelf.Ren := ⟨fun | 156 => 60 | 165 => 82 | 166 => 83 | 169 => 84 | 240 => 107 | 241 => 108 | 276 => 123 | 277 => 124 | n => n, fun | 31 => 34 | 9 => 9 | 3 => 3 | 4 => 4 | 0 => 0 | 20 => 20 | 72 => 110 | 76 => 114 | 70 => 107 | 37 => 108 | 75 => 113 | 127 => 146 | 164 => 158 | 5 => 5 | 80 => 116 | n => n, fun | n => n⟩
theorem Tryz.lays156 : Go.Proofs.Lays.n156 Tryz.prog Tryz.lays156_ren := {
 mixed := by kernel_rfl
 f156 := Tryz.func60.trans (congrArg some (by kernel_rfl))
 f165 := Tryz.func82.trans (congrArg some (by kernel_rfl))
 f166 := Tryz.func83.trans (congrArg some (by kernel_rfl))
 f169 := Tryz.func84.trans (congrArg some (by kernel_rfl))
 f240 := Tryz.func107.trans (congrArg some (by kernel_rfl))
 f241 := Tryz.func108.trans (congrArg some (by kernel_rfl))
 f276 := Tryz.func123.trans (congrArg some (by kernel_rfl))
 f277 := Tryz.func124.trans (congrArg some (by kernel_rfl))
 t0 := Tryz.underlying0
 a0 := Tryz.isAgg0
 z0 := Tryz.sizeOf0
 v0 := Tryz.zeroValue0
 t3 := Tryz.underlying3
 a3 := Tryz.isAgg3
 z3 := Tryz.sizeOf3
 v3 := Tryz.zeroValue3
 t4 := Tryz.underlying4
 a4 := Tryz.isAgg4
 z4 := Tryz.sizeOf4
 v4 := Tryz.zeroValue4
 t9 := Tryz.underlying9
 a9 := Tryz.isAgg9
 z9 := Tryz.sizeOf9
 v9 := Tryz.zeroValue9
 t20 := Tryz.underlying20
 a20 := Tryz.isAgg20
 z20 := Tryz.sizeOf20
 v20 := Tryz.zeroValue20
 t31 := Tryz.underlying34
 a31 := Tryz.isAgg34
 z31 := Tryz.sizeOf34
 v31 := Tryz.zeroValue34
 t37 := Tryz.underlying108
 a37 := Tryz.isAgg108
 z37 := Tryz.sizeOf108
 v37 := Tryz.zeroValue108
 t70 := Tryz.underlying107
 a70 := Tryz.isAgg107
 z70 := Tryz.sizeOf107
 v70 := Tryz.zeroValue107
 t72 := Tryz.underlying110
 a72 := Tryz.isAgg110
 z72 := Tryz.sizeOf110
 v72 := Tryz.zeroValue110
 t75 := Tryz.underlying113
 a75 := Tryz.isAgg113
 z75 := Tryz.sizeOf113
 v75 := Tryz.zeroValue113
 t76 := Tryz.underlying114
 a76 := Tryz.isAgg114
 z76 := Tryz.sizeOf114
 v76 := Tryz.zeroValue114
 t127 := Tryz.underlying146
 a127 := Tryz.isAgg146
 z127 := Tryz.sizeOf146
 v127 := Tryz.zeroValue146
 t164 := Tryz.underlying158
 a164 := Tryz.isAgg158
 z164 := Tryz.sizeOf158
 v164 := Tryz.zeroValue158 }
theorem Tryz.Builder_Extra_156 : Builder.Extra Tryz.prog Tryz.lays156_ren := {
 sizeBuilder := by kernel_rfl
 liesBuilder := by kernel_rfl
 t5 := Tryz.underlying5
 a5 := Tryz.isAgg5
 z5 := Tryz.sizeOf5
 v5 := Tryz.zeroValue5
 infoByte := by kernel_rfl
 cellsByte := by kernel_rfl
 sizeByte := by kernel_rfl
 neB5 := by decide }
open Go.RowKit in
theorem Tryz.strings_Join_none (a : Option Addr) (c : Nat) (sep : ByteArray) (w : World) :
  Calls Tryz.prog 60 #[.slice a 0 c, .string sep] w fun e w' => e = .returned (.string ⟨#[]⟩) ∧ w' = w := Any.strings_Join_none Tryz.lays156 Tryz.Builder_Extra_156 a c sep w
open Go.RowKit in
theorem Tryz.strings_Join (bk o c : Nat) (xs : List ByteArray) (sep : ByteArray) (w : World) (hcells : ∀ (j : Nat) x, xs[j]? = some x → w.cell? ⟨bk, o + j, none⟩ = some (.string x)) (hbk : bk < w.heap.size) (hN : xs.length ≤ 140737488355328) (hcap : xs.length ≤ c) (hlen : (Lib.join (xs.map (·.data.toList)) sep.data.toList).length ≤ 140737488355328) :
  Calls Tryz.prog 60 #[.slice (some ⟨bk, o, none⟩) xs.length c, .string sep] w fun e w' => e = .returned (.string ⟨(Lib.join (xs.map (·.data.toList)) sep.data.toList).toArray⟩) ∧ Below w.heap.size w w' := Any.strings_Join Tryz.lays156 Tryz.Builder_Extra_156 bk o c xs sep w hcells hbk hN hcap hlen
end Go.Proofs
end
section
set_option linter.unusedVariables false
namespace Go.Proofs
open Go.Shelf Go.RowKit
def Tryz.lays167_ren : Go.Shelf.Ren := ⟨fun | 167 => 119 | 240 => 107 | 276 => 123 | n => n, fun | 0 => 0 | 3 => 3 | 4 => 4 | 5 => 5 | 9 => 9 | 20 => 20 | 37 => 108 | 70 => 107 | 72 => 110 | 75 => 113 | 80 => 116 | 76 => 114 | 164 => 158 | n => n, fun | n => n⟩
theorem Tryz.lays167 : Go.Proofs.Lays.n167 Tryz.prog Tryz.lays167_ren := {
 mixed := by kernel_rfl
 f167 := Tryz.func119.trans (congrArg some (by kernel_rfl))
 f240 := Tryz.func107.trans (congrArg some (by kernel_rfl))
 f276 := Tryz.func123.trans (congrArg some (by kernel_rfl))
 t0 := Tryz.underlying0
 a0 := Tryz.isAgg0
 z0 := Tryz.sizeOf0
 v0 := Tryz.zeroValue0
 t4 := Tryz.underlying4
 a4 := Tryz.isAgg4
 z4 := Tryz.sizeOf4
 v4 := Tryz.zeroValue4
 t5 := Tryz.underlying5
 a5 := Tryz.isAgg5
 z5 := Tryz.sizeOf5
 v5 := Tryz.zeroValue5
 t9 := Tryz.underlying9
 a9 := Tryz.isAgg9
 z9 := Tryz.sizeOf9
 v9 := Tryz.zeroValue9
 t20 := Tryz.underlying20
 a20 := Tryz.isAgg20
 z20 := Tryz.sizeOf20
 v20 := Tryz.zeroValue20
 t37 := Tryz.underlying108
 a37 := Tryz.isAgg108
 z37 := Tryz.sizeOf108
 v37 := Tryz.zeroValue108
 t70 := Tryz.underlying107
 a70 := Tryz.isAgg107
 z70 := Tryz.sizeOf107
 v70 := Tryz.zeroValue107
 t72 := Tryz.underlying110
 a72 := Tryz.isAgg110
 z72 := Tryz.sizeOf110
 v72 := Tryz.zeroValue110
 t75 := Tryz.underlying113
 a75 := Tryz.isAgg113
 z75 := Tryz.sizeOf113
 v75 := Tryz.zeroValue113
 t164 := Tryz.underlying158
 a164 := Tryz.isAgg158
 z164 := Tryz.sizeOf158
 v164 := Tryz.zeroValue158
}
theorem Tryz.Builder_Extra_167 : Builder.Extra Tryz.prog Tryz.lays167_ren := {
 sizeBuilder := by kernel_rfl
 liesBuilder := by kernel_rfl
 t5 := Tryz.underlying5
 a5 := Tryz.isAgg5
 z5 := Tryz.sizeOf5
 v5 := Tryz.zeroValue5
 infoByte := by kernel_rfl
 cellsByte := by kernel_rfl
 sizeByte := by kernel_rfl
 neB5 := by decide }
theorem Tryz.Builder_WriteByte (B b : Nat) (bs : List Value) (c : Int) (w : World) (h : Lib.IsBuilder 110 5 B b bs w) (hlen : bs.length + 1 ≤ 140737488355328) (hBw : B ≤ w.heap.size) :
  Calls Tryz.prog 119 #[.pointer (some ⟨b, 0, none⟩), .int .u8 c] w fun e w' => e = .returned .nilIface ∧ (Lib.BuilderAt 110 5 B b (.pointer (some ⟨b, 0, none⟩)) (bs ++ [.int .u8 c]) w' ∧ Below B w w') := Any.Builder_WriteByte Tryz.lays167 Tryz.Builder_Extra_167 B b bs c w h hlen hBw
end Go.Proofs
end
section
set_option linter.unusedVariables false
set_option linter.unusedSimpArgs false
namespace Go.Proofs.YtnfanpjfhdlddaaGreatDoor.Pr
open Go.RowKit Go.Proofs.YtnfanpjfhdlddaaGreatDoorW.PrintWords Go.Proofs.YtnfanpjfhdlddaaGreatDoorW.PrintLast Go.Proofs.YtnfanpjfhdlddaaGreatDoorW.PrintMore
def attr_reader_quoted.l0 : Nat → ByteArray → Int → Bool → List UInt8 → Option (ByteArray × ByteArray × Int × Bool)
  | 0, _, _, _, _ => none
  | k + 1, s, i, bad, acc =>
    if bad = true then some (⟨#[]⟩, s, i, true)
    else if i < (s.size : Int) then
      (attr_reader_peek.f s i bad).bind fun c =>
        if c = 34 then some (⟨acc.toArray⟩, s, wrap64 (i + 1), bad)
        else if c = 10 then some (⟨#[]⟩, s, i, true)
        else if c = 92 then
          (attr_reader_peek.f s (wrap64 (i + 1)) bad).bind fun c2 =>
            if wrap64 (i + 1) < (s.size : Int) then
              if c2 = 110 then (if acc.length < 140737488355328 then attr_reader_quoted.l0 k s (wrap64 (wrap64 (i + 1) + 1)) bad (acc ++ [10]) else none)
              else if c2 = 34 then (if acc.length < 140737488355328 then attr_reader_quoted.l0 k s (wrap64 (wrap64 (i + 1) + 1)) bad (acc ++ [34]) else none)
              else if c2 = 92 then (if acc.length < 140737488355328 then attr_reader_quoted.l0 k s (wrap64 (wrap64 (i + 1) + 1)) bad (acc ++ [92]) else none)
              else some (⟨#[]⟩, s, wrap64 (i + 1), true)
            else some (⟨#[]⟩, s, wrap64 (i + 1), true)
        else if acc.length < 140737488355328 then attr_reader_quoted.l0 k s (wrap64 (i + 1)) bad (acc ++ [UInt8.ofNat c.toNat]) else none
    else some (⟨#[]⟩, s, i, true)
def attr_reader_quoted.f (k : Nat) (s0_0 : ByteArray) (s0_1 : Int) (s0_2 : Bool) : Option (ByteArray × ByteArray × Int × Bool) :=
  (attr_reader_need.f s0_0 s0_1 s0_2 (⟨#[34]⟩ : ByteArray)).bind fun x => attr_reader_quoted.l0 k x.1 x.2.1 x.2.2 []
theorem attr_reader_quoted.mono_l : ∀ k, (∀ y0 y1 y2 y3, LeO (attr_reader_quoted.l0 k y0 y1 y2 y3) (attr_reader_quoted.l0 (k + 1) y0 y1 y2 y3))
 | 0 => fun _ _ _ _ r h => by simp [attr_reader_quoted.l0] at h
 | k + 1 => by
  have ih0 := attr_reader_quoted.mono_l k
  intro y0 y1 y2 y3
  unfold attr_reader_quoted.l0
  repeat' first
   | (with_reducible exact ih0 _ _ _ _)
   | (with_reducible exact LeO.refl _)
   | (with_reducible exact LeO.none _)
   | (with_reducible refine LeO.ite ?_ ?_)
   | (with_reducible refine LeO.bind ?_ (fun _ => ?_))
theorem attr_reader_quoted.mono : ∀ a0 a1 a2 k, LeO (attr_reader_quoted.f k a0 a1 a2) (attr_reader_quoted.f (k + 1) a0 a1 a2) := by
 intro a0 a1 a2 k
 unfold attr_reader_quoted.f
 refine LeO.bind (LeO.refl _) (fun _ => attr_reader_quoted.mono_l k _ _ _ _)
theorem isBuilder_move {T e : TypeId} {B b : Nat} {bs : List Value} {W W' : World} (h : Lib.IsBuilder T e B b bs W) (hm : ∀ i, B ≤ i → i < W.heap.size → W'.heap[i]? = W.heap[i]?) : Lib.IsBuilder T e B b bs W' := by
 have key : ∀ p, Lib.BuilderAt T e B b p bs W → Lib.BuilderAt T e B b p bs W' := by
  rintro p ⟨h1, v, h2, h3, h4⟩
  refine ⟨h1, v, (hm b h1 (Array.getElem?_eq_some_iff.1 h2).1).trans h2, own_move h3 (fun k hk => hm k (own_base h3 k hk) (own_lt h3 k hk)), h4⟩
 rcases h with h | h
 ·
  exact .inl (key _ h)
 ·
  exact .inr (key _ h)
theorem isBuilder_keep {T e : TypeId} {B b g : Nat} {bs : List Value} {W W' : World} (h : Lib.IsBuilder T e B b bs W) (hk : KeepBut W W' g none) (hg : g < B) : Lib.IsBuilder T e B b bs W' :=
 isBuilder_move h (fun i hi hl => hk.2 i hl (by omega) (by simp))
theorem isBuilder_set {T e : TypeId} {B b g j : Nat} {bs : List Value} {W : World} {u : Value} (h : Lib.IsBuilder T e B b bs W) (hg : g < B) : Lib.IsBuilder T e B b bs (W.setCell ⟨g, j, none⟩ u) :=
 isBuilder_move h (fun i hi hl => Below.heap_setCell W _ u i (by show i ≠ g; omega))
theorem byteCells_snoc (l : List UInt8) (c : UInt8) (x : Int) (h : x = (c.toNat : Int)) : Lib.byteCells l ++ [.int .u8 x] = Lib.byteCells (l ++ [c]) := by
 subst h; simp [Lib.byteCells]
theorem byteCells_len (l : List UInt8) : (Lib.byteCells l).length = l.length := by simp [Lib.byteCells]
structure QI (w0 w : World) (g : Nat) (s : ByteArray) (i : Int) (bad : Bool) (acc : List UInt8) (W : World) : Prop where
  st : IsS103 w0 W g s i bad
  bu : Lib.IsBuilder 110 5 w.heap.size w.heap.size (Lib.byteCells acc) W
  be : Below w0.heap.size w0 W
  ke : KeepBut w W g none
theorem QI.drewN {w0 w W : World} {g : Nat} {s : ByteArray} {i : Int} {bad : Bool} {acc : List UInt8} (h : QI w0 w g s i bad acc W) (n : Nat) : QI w0 w g s i bad acc (W.drewN n) :=
 ⟨h.st.drewN n, h.bu, pw_below_drewN h.be n, keep_drewN h.ke n⟩
theorem QI.at_ {w0 w W : World} {g : Nat} {s : ByteArray} {i : Int} {bad : Bool} {acc : List UInt8} (h : QI w0 w g s i bad acc W) (hg : g < w.heap.size) (x : Int) : QI w0 w g s x bad acc (W.setCell ⟨g, 1, none⟩ (.int .i64 x)) :=
 ⟨h.st.set_1 x, isBuilder_set h.bu hg, below_set h.be h.st.ge, h.ke.set_ _ _⟩
theorem QI.bad_ {w0 w W : World} {g : Nat} {s : ByteArray} {i : Int} {bad : Bool} {acc : List UInt8} (h : QI w0 w g s i bad acc W) (hg : g < w.heap.size) (x : Bool) : QI w0 w g s i x acc (W.setCell ⟨g, 2, none⟩ (.bool x)) :=
 ⟨h.st.set_2 x, isBuilder_set h.bu hg, below_set h.be h.st.ge, h.ke.set_ _ _⟩
theorem QI.byte {w0 w W W' : World} {g : Nat} {s : ByteArray} {i : Int} {bad : Bool} {acc : List UInt8} (h : QI w0 w g s i bad acc W) (hg : g < w.heap.size) (c : UInt8) (x : Int) (hx : x = (c.toNat : Int)) {p : Value} (hp : p = .pointer (some ⟨w.heap.size, 0, none⟩))
  (hb : Lib.BuilderAt 110 5 w.heap.size w.heap.size p (Lib.byteCells acc ++ [.int .u8 x]) W') (hB : Below w.heap.size W W') (h0 : w0.heap.size ≤ w.heap.size) : QI w0 w g s i bad (acc ++ [c]) W' := by
 subst hp
 rw [byteCells_snoc acc c x hx] at hb
 exact ⟨⟨(hB.block g hg).trans h.st.1, h.st.2⟩, .inr hb, h.be.trans (hB.mono h0), ⟨Nat.le_trans h.ke.1 hB.size, fun k hk hne hr => (hB.block k hk).trans (h.ke.2 k hk hne hr)⟩⟩
theorem QI.string {w0 w W W' : World} {g : Nat} {s : ByteArray} {i : Int} {bad : Bool} {acc : List UInt8} (h : QI w0 w g s i bad acc W) (hg : g < w.heap.size) (hB : Below w.heap.size W W') (h0 : w0.heap.size ≤ w.heap.size) : IsS103 w0 W' g s i bad ∧ Below w0.heap.size w0 W' ∧ KeepBut w W' g none :=
 ⟨⟨(hB.block g hg).trans h.st.1, h.st.2⟩, h.be.trans (hB.mono h0), ⟨Nat.le_trans h.ke.1 hB.size, fun k hk hne hr => (hB.block k hk).trans (h.ke.2 k hk hne hr)⟩⟩
theorem QI.drawn {w0 w W W' : World} {g : Nat} {s : ByteArray} {i : Int} {bad : Bool} {acc : List UInt8} (h : QI w0 w g s i bad acc W) (hd : Drawn0 W W') : QI w0 w g s i bad acc W' := by
 obtain ⟨⟨n, rfl⟩⟩ := hd
 exact h.drewN n
theorem QI.cells {w0 w W : World} {g : Nat} {s : ByteArray} {i : Int} {bad : Bool} {acc : List UInt8} (h : QI w0 w g s i bad acc W) : W.cell? ⟨g, 0, none⟩ = some (.string s) ∧ W.cell? ⟨g, 1, none⟩ = some (.int .i64 i) ∧ W.cell? ⟨g, 2, none⟩ = some (.bool bad) ∧ W.frozen? ⟨g, 0, none⟩ = false ∧ W.frozen? ⟨g, 1, none⟩ = false ∧ W.frozen? ⟨g, 2, none⟩ = false :=
 ⟨cellS103_0 h.st.1, cellS103_1 h.st.1, cellS103_2 h.st.1, blk_frozen h.st.1 0, blk_frozen h.st.1 1, blk_frozen h.st.1 2⟩
theorem peek_byte {s : ByteArray} {x : Int} {b : Bool} {c : Int} (h : attr_reader_peek.f s x b = some c) : c = ((UInt8.ofNat c.toNat).toNat : Int) := by
 have hc : 0 ≤ c ∧ c ≤ 255 := by
  unfold attr_reader_peek.f at h
  split at h
  ·
   split at h
   ·
    cases h; exact bt_range s x
   ·
    cases h
  ·
   cases h; omega
 have : (UInt8.ofNat c.toNat).toNat = c.toNat := by simp; omega
 rw [this]; omega
def QPost (w0 w : World) (g : Nat) (r1 r2 : ByteArray) (r3 : Int) (r4 : Bool) (e : Ending) (w' : World) : Prop :=
  e = .returned (.string r1) ∧ IsS103 w0 w' g r2 r3 r4 ∧ Below w0.heap.size w0 w' ∧ KeepBut w w' g none
theorem QI.post {w0 w W : World} {g : Nat} {s : ByteArray} {i : Int} {bad : Bool} {acc : List UInt8} (h : QI w0 w g s i bad acc W) (r : ByteArray) : QPost w0 w g r s i bad (.returned (.string r)) W := ⟨rfl, h.st, h.be, h.ke⟩
set_option maxHeartbeats 16000000 in
set_option maxRecDepth 100000 in
theorem attr_reader_quoted.calls (k : Nat) (g : Nat) (s0_0 : ByteArray) (s0_1 : Int) (s0_2 : Bool) (r1 r2 : ByteArray) (r3 : Int) (r4 : Bool) (w0 w : World) (hI : IsS103 w0 w g s0_0 s0_1 s0_2) (hB : Below w0.heap.size w0 w) (h : attr_reader_quoted.f k s0_0 s0_1 s0_2 = some (r1, r2, r3, r4)) :
  Calls Tryz.prog 104 #[.pointer (some ⟨g, 0, none⟩)] w fun e w' => e = .returned (.string r1) ∧ IsS103 w0 w' g r2 r3 r4 ∧ Below w0.heap.size w0 w' ∧ KeepBut w w' g none := by
 show Calls Tryz.prog 104 #[.pointer (some ⟨g, 0, none⟩)] w (QPost w0 w g r1 r2 r3 r4)
 unfold attr_reader_quoted.f at h
 obtain ⟨⟨s, i, bad⟩, hn, hl⟩ := Option.bind_eq_some_iff.mp h
 clear h
 have HN := Aside0.mk hn
 have HL := Aside0.mk hl
 clear hn hl
 have hg : g < w.heap.size := hI.lt
 have h0 : w0.heap.size ≤ w.heap.size := hB.size
 have hb0 : QI w0 w g s0_0 s0_1 s0_2 [] (w.alloc (.cells #[.pointer none, .slice none 0 0] 110)) :=
  ⟨hI.alloc _, Lib.fresh_isBuilder 110 5 w, hB.alloc h0 _, ⟨by simp, fun k hk hne hr => Lib.alloc_old w _ k hk⟩⟩
 have HQ := Aside0.mk hb0
 have HG := Aside0.mk hg
 have H0 := Aside0.mk h0
 clear hI hB hb0 hg h0
 go_enter Tryz.func104, Tryz.ntmps104
 go_wp2_with fail
 refine (attr_reader_need.calls g s0_0 s0_1 s0_2 _ s i bad w0 _ HQ.out.st HQ.out.be HN.out).mono ?_
 rintro e w1 ⟨rfl, hi, hb, hk⟩
 have HQ1 : Aside0 (QI w0 w g s i bad [] w1) := ⟨⟨hi, isBuilder_keep HQ.out.bu hk HG.out, hb, KeepBut.trans HQ.out.ke hk (.inl rfl)⟩⟩
 clear hi hb hk HQ HN
 go_wp2_with fail
 go_loopg [4] k (fun kq v4 w' => ∃ (x : Int) (b : Bool) (acc : List UInt8), Aside0 (attr_reader_quoted.l0 kq s x b acc = some (r1, r2, r3, r4)) ∧ Aside0 (kq ≤ k) ∧ Aside0 (QI w0 w g s x b acc w'))
 case atStart => exact ⟨i, bad, [], HL, ⟨Nat.le_refl _⟩, HQ1⟩
 case round =>
  clear HL HQ1
  obtain ⟨x, b, acc, HA, HK, HQ⟩ := hrel
  cases gk with
  | zero => exact absurd HA.out (by simp [attr_reader_quoted.l0])
  | succ k1 =>
   have H := HA.out
   clear HA
   simp only [attr_reader_quoted.l0] at H
   obtain ⟨HGz, hgz⟩ := HQ.out.st
   have hc0 := cellS103_0 HGz
   have hc1 := cellS103_1 HGz
   have hc2 := cellS103_2 HGz
   have hf0 := blk_frozen HGz 0
   have hf1 := blk_frozen HGz 1
   have hf2 := blk_frozen HGz 2
   clear HGz hgz
   by_cases c1 : b = true
   ·
    subst c1
    rw [if_pos rfl] at H
    simp only [Option.some.injEq, Prod.mk.injEq] at H
    obtain ⟨rfl, rfl, rfl, rfl⟩ := H
    go_wp2_with fail
    repeat (go_quiet (fail); try go_wp2_with fail)
    go_ret
    exact ((HQ.out.drewN _).bad_ HG.out true).post _
   ·
    rw [if_neg c1] at H
    obtain rfl : b = false := Bool.eq_false_iff.mpr c1
    clear c1
    by_cases c2 : x < (s.size : Int)
    ·
     rw [if_pos c2] at H
     have c2b : decide (x < (s.size : Int)) = true := decide_eq_true c2
     clear c2
     obtain ⟨c, A1, H⟩ := Option.bind_eq_some_iff.mp H
     have A1 := Aside0.mk A1
     go_wp2_with fail
     repeat (go_quiet (fail); try go_wp2_with fail)
     refine (attr_reader_peek.calls g s x false c w0 _ (HQ.out.drewN _).st (HQ.out.drewN _).be A1.out).mono ?_
     rintro e w2 ⟨rfl, hd⟩
     have HQ2 := Aside0.mk ((HQ.out.drewN _).drawn hd)
     clear hd hc0 hc1 hc2 hf0 hf1 hf2 HQ
     obtain ⟨hc0, hc1, hc2, hf0, hf1, hf2⟩ := HQ2.out.cells
     by_cases d1 : c = 34
     ·
      subst d1
      rw [if_pos rfl] at H
      simp only [Option.some.injEq, Prod.mk.injEq] at H
      obtain ⟨rfl, rfl, rfl, rfl⟩ := H
      go_wp2_with fail
      have HQ3 := Aside0.mk (HQ2.out.at_ HG.out (wrap64 (x + 1)))
      refine (Tryz.Builder_String_any w.heap.size w.heap.size acc _ HQ3.out.bu HQ3.out.ke.1).mono ?_
      rintro e w4 ⟨rfl, hb⟩
      have HF := Aside0.mk (HQ3.out.string HG.out hb H0.out)
      clear hb
      go_wp2_with fail
      go_ret
      exact ⟨rfl, HF.out.1, HF.out.2.1, HF.out.2.2⟩
     ·
      rw [if_neg d1] at H
      have d1b : (c == 34) = false := beq_eq_false_iff_ne.mpr d1
      by_cases d2 : c = 10
      ·
       subst d2
       rw [if_pos rfl] at H
       simp only [Option.some.injEq, Prod.mk.injEq] at H
       obtain ⟨rfl, rfl, rfl, rfl⟩ := H
       clear d1
       go_wp2_with fail
       go_ret
       exact (HQ2.out.bad_ HG.out true).post _
      ·
       rw [if_neg d2] at H
       have d2b : (c == 10) = false := beq_eq_false_iff_ne.mpr d2
       by_cases d3 : c = 92
       ·
        subst d3
        rw [if_pos rfl] at H
        clear d1 d2
        obtain ⟨c', A2, H⟩ := Option.bind_eq_some_iff.mp H
        have A2 := Aside0.mk A2
        go_wp2_with fail
        have HQ3 := Aside0.mk (HQ2.out.at_ HG.out (wrap64 (x + 1)))
        refine (attr_reader_peek.calls g s (wrap64 (x + 1)) false c' w0 _ HQ3.out.st HQ3.out.be A2.out).mono ?_
        rintro e w3 ⟨rfl, hd⟩
        have HQ4 := Aside0.mk (HQ3.out.drawn hd)
        clear hd hc0 hc1 hc2 hf0 hf1 hf2 HQ2 HQ3
        obtain ⟨hc0, hc1, hc2, hf0, hf1, hf2⟩ := HQ4.out.cells
        obtain ⟨y, hy⟩ : ∃ y, wrap64 (x + 1) = y := ⟨_, rfl⟩
        rw [hy] at HQ4 hc1 H
        clear hy
        by_cases e1 : y < (s.size : Int)
        ·
         rw [if_pos e1] at H
         have e1b : decide (y < (s.size : Int)) = true := decide_eq_true e1
         have e1c : decide ((s.size : Int) ≤ y) = false := decide_eq_false (by omega)
         by_cases f1 : c' = 110
         ·
          subst f1
          rw [if_pos rfl] at H
          by_cases hl : acc.length < 140737488355328
          ·
           rw [if_pos hl] at H
           have HL := Aside0.mk hl
           have H' := Aside0.mk H
           clear hl H e1
           go_wp2_with fail
           repeat (go_quiet (fail); try go_wp2_with fail)
           refine (Tryz.Builder_WriteByte w.heap.size w.heap.size (Lib.byteCells acc) 10 _ (HQ4.out.drewN _).bu (by rw [byteCells_len]; have := HL.out; omega) (HQ4.out.drewN _).ke.1).mono ?_
           rintro e w5 ⟨rfl, hb, hB5⟩
           have HQ5 := Aside0.mk ((HQ4.out.drewN _).byte HG.out 10 10 rfl rfl hb hB5 H0.out)
           clear hb hB5 hc0 hc1 hc2 hf0 hf1 hf2 HQ4
           obtain ⟨hc0, hc1, hc2, hf0, hf1, hf2⟩ := HQ5.out.cells
           go_wp2_with fail
           go_roundg k1
           case measure => have := HK.out; omega
           case rel => exact ⟨_, _, _, H', ⟨by have := HK.out; omega⟩, ⟨HQ5.out.at_ HG.out _⟩⟩
          ·
           rw [if_neg hl] at H
           cases H
         ·
          rw [if_neg f1] at H
          have f1b : (c' == 110) = false := beq_eq_false_iff_ne.mpr f1
          by_cases f2 : c' = 34
          ·
           subst f2
           rw [if_pos rfl] at H
           by_cases hl : acc.length < 140737488355328
           ·
            rw [if_pos hl] at H
            have HL := Aside0.mk hl
            have H' := Aside0.mk H
            clear hl H e1 f1
            go_wp2_with fail
            repeat (go_quiet (fail); try go_wp2_with fail)
            refine (Tryz.Builder_WriteByte w.heap.size w.heap.size (Lib.byteCells acc) 34 _ (HQ4.out.drewN _).bu (by rw [byteCells_len]; have := HL.out; omega) (HQ4.out.drewN _).ke.1).mono ?_
            rintro e w5 ⟨rfl, hb, hB5⟩
            have HQ5 := Aside0.mk ((HQ4.out.drewN _).byte HG.out 34 34 rfl rfl hb hB5 H0.out)
            clear hb hB5 hc0 hc1 hc2 hf0 hf1 hf2 HQ4
            obtain ⟨hc0, hc1, hc2, hf0, hf1, hf2⟩ := HQ5.out.cells
            go_wp2_with fail
            go_roundg k1
            case measure => have := HK.out; omega
            case rel => exact ⟨_, _, _, H', ⟨by have := HK.out; omega⟩, ⟨HQ5.out.at_ HG.out _⟩⟩
           ·
            rw [if_neg hl] at H
            cases H
          ·
           rw [if_neg f2] at H
           have f2b : (c' == 34) = false := beq_eq_false_iff_ne.mpr f2
           have f2c : (c' != 34) = true := bne_iff_ne.mpr f2
           by_cases f3 : c' = 92
           ·
            subst f3
            rw [if_pos rfl] at H
            by_cases hl : acc.length < 140737488355328
            ·
             rw [if_pos hl] at H
             have HL := Aside0.mk hl
             have H' := Aside0.mk H
             clear hl H e1 f1 f2
             go_wp2_with fail
             repeat (go_quiet (fail); try go_wp2_with fail)
             refine (Tryz.Builder_WriteByte w.heap.size w.heap.size (Lib.byteCells acc) 92 _ (HQ4.out.drewN _).bu (by rw [byteCells_len]; have := HL.out; omega) (HQ4.out.drewN _).ke.1).mono ?_
             rintro e w5 ⟨rfl, hb, hB5⟩
             have HQ5 := Aside0.mk ((HQ4.out.drewN _).byte HG.out 92 92 rfl rfl hb hB5 H0.out)
             clear hb hB5 hc0 hc1 hc2 hf0 hf1 hf2 HQ4
             obtain ⟨hc0, hc1, hc2, hf0, hf1, hf2⟩ := HQ5.out.cells
             go_wp2_with fail
             go_roundg k1
             case measure => have := HK.out; omega
             case rel => exact ⟨_, _, _, H', ⟨by have := HK.out; omega⟩, ⟨HQ5.out.at_ HG.out _⟩⟩
            ·
             rw [if_neg hl] at H
             cases H
           ·
            rw [if_neg f3] at H
            have f3c : (c' != 92) = true := bne_iff_ne.mpr f3
            simp only [Option.some.injEq, Prod.mk.injEq] at H
            obtain ⟨rfl, rfl, rfl, rfl⟩ := H
            clear e1 f1 f2 f3
            go_wp2_with fail
            repeat (go_quiet (fail); try go_wp2_with fail)
            go_ret
            exact ((HQ4.out.drewN _).bad_ HG.out true).post _
        ·
         rw [if_neg e1] at H
         have e1b : decide (y < (s.size : Int)) = false := decide_eq_false e1
         have e1c : decide ((s.size : Int) ≤ y) = true := decide_eq_true (by omega)
         simp only [Option.some.injEq, Prod.mk.injEq] at H
         obtain ⟨rfl, rfl, rfl, rfl⟩ := H
         clear e1
         go_wp2_with fail
         repeat (go_quiet (fail); try go_wp2_with fail)
         go_ret
         exact ((HQ4.out.drewN _).bad_ HG.out true).post _
       ·
        rw [if_neg d3] at H
        have d3b : (c == 92) = false := beq_eq_false_iff_ne.mpr d3
        by_cases hl : acc.length < 140737488355328
        ·
         rw [if_pos hl] at H
         have HL := Aside0.mk hl
         have H' := Aside0.mk H
         have HC := Aside0.mk (peek_byte A1.out)
         clear hl H d1 d2 d3
         go_wp2_with fail
         refine (Tryz.Builder_WriteByte w.heap.size w.heap.size (Lib.byteCells acc) c _ HQ2.out.bu (by rw [byteCells_len]; have := HL.out; omega) HQ2.out.ke.1).mono ?_
         rintro e w5 ⟨rfl, hb, hB5⟩
         have HQ5 := Aside0.mk (HQ2.out.byte HG.out (UInt8.ofNat c.toNat) c HC.out rfl hb hB5 H0.out)
         clear hb hB5 hc0 hc1 hc2 hf0 hf1 hf2 HQ2
         obtain ⟨hc0, hc1, hc2, hf0, hf1, hf2⟩ := HQ5.out.cells
         go_wp2_with fail
         go_roundg k1
         case measure => have := HK.out; omega
         case rel => exact ⟨_, _, _, H', ⟨by have := HK.out; omega⟩, ⟨HQ5.out.at_ HG.out _⟩⟩
        ·
         rw [if_neg hl] at H
         cases H
    ·
     rw [if_neg c2] at H
     have c2b : decide (x < (s.size : Int)) = false := decide_eq_false c2
     clear c2
     simp only [Option.some.injEq, Prod.mk.injEq] at H
     obtain ⟨rfl, rfl, rfl, rfl⟩ := H
     go_wp2_with fail
     repeat (go_quiet (fail); try go_wp2_with fail)
     go_ret
     exact ((HQ.out.drewN _).bad_ HG.out true).post _
end Go.Proofs.YtnfanpjfhdlddaaGreatDoor.Pr
end
