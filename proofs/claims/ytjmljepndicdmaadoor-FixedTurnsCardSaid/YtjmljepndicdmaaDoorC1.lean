import Derived.Test.YtjmljepndicdmaaDoorA4
import Derived.Test.YtjmljepndicdmaaDoorW2
set_option linter.unusedVariables false
set_option linter.unusedSimpArgs false
namespace Go.Proofs.YtjmljepndicdmaaDoor
open Go.RowKit

section
variable {w wr : World} {g t b : Nat} {cs : Array Value}
theorem far3 (h : Bk wr g t cs) (hne : g ≠ b) (n1 n2 i0 i1 i2 : Nat) (u0 u1 u2 : Value) :
    Bk (((((wr.drewN n1).setCell ⟨b, i0, none⟩ u0).drewN n2).setCell ⟨b, i1, none⟩ u1).setCell ⟨b, i2, none⟩ u2) g t cs :=
  ((((h.drewN n1).far (p := ⟨b, i0, none⟩) hne u0).drewN n2).far (p := ⟨b, i1, none⟩) hne u1).far (p := ⟨b, i2, none⟩) hne u2
theorem set3 (h : Bk wr b t cs) (n1 n2 i0 i1 i2 : Nat) (u0 u1 u2 : Value) :
    Bk (((((wr.drewN n1).setCell ⟨b, i0, none⟩ u0).drewN n2).setCell ⟨b, i1, none⟩ u1).setCell ⟨b, i2, none⟩ u2) b t (((cs.setIfInBounds i0 u0).setIfInBounds i1 u1).setIfInBounds i2 u2) :=
  ((((h.drewN n1).set_ i0 u0).drewN n2).set_ i1 u1).set_ i2 u2
theorem below3 {B : Nat} (h : Below B w wr) (hb : B ≤ b) (n1 n2 i0 i1 i2 : Nat) (u0 u1 u2 : Value) :
    Below B w (((((wr.drewN n1).setCell ⟨b, i0, none⟩ u0).drewN n2).setCell ⟨b, i1, none⟩ u1).setCell ⟨b, i2, none⟩ u2) :=
  ((below_drewN ((below_drewN h n1).setCell (p := ⟨b, i0, none⟩) hb u0) n2).setCell (p := ⟨b, i1, none⟩) hb u1).setCell (p := ⟨b, i2, none⟩) hb u2
theorem below4 {B : Nat} (h : Below B w wr) (i0 i1 i2 i3 : Nat) (u0 u1 u2 u3 : Value) :
    Below B w ((((wr.setCell ⟨B, i0, none⟩ u0).setCell ⟨B, i1, none⟩ u1).setCell ⟨B, i2, none⟩ u2).setCell ⟨B, i3, none⟩ u3) :=
  (((h.setCell (p := ⟨B, i0, none⟩) (Nat.le_refl _) u0).setCell (p := ⟨B, i1, none⟩) (Nat.le_refl _) u1).setCell (p := ⟨B, i2, none⟩) (Nat.le_refl _) u2).setCell (p := ⟨B, i3, none⟩) (Nat.le_refl _) u3
theorem start4 (w : World) (c0 c1 c2 c3 : Array Value) (t0 t1 t2 t3 : TypeId) :
    Bk ((((w.alloc (.cells c0 t0)).alloc (.cells c1 t1)).alloc (.cells c2 t2)).alloc (.cells c3 t3)) w.heap.size t0 c0 ∧
    Bk ((((w.alloc (.cells c0 t0)).alloc (.cells c1 t1)).alloc (.cells c2 t2)).alloc (.cells c3 t3)) (w.heap.size + 1) t1 c1 ∧
    Bk ((((w.alloc (.cells c0 t0)).alloc (.cells c1 t1)).alloc (.cells c2 t2)).alloc (.cells c3 t3)) (w.heap.size + 1 + 1) t2 c2 ∧
    Bk ((((w.alloc (.cells c0 t0)).alloc (.cells c1 t1)).alloc (.cells c2 t2)).alloc (.cells c3 t3)) (w.heap.size + 1 + 1 + 1) t3 c3 ∧
    Below w.heap.size w ((((w.alloc (.cells c0 t0)).alloc (.cells c1 t1)).alloc (.cells c2 t2)).alloc (.cells c3 t3)) := by
  have h0 := Bk.new w t0 c0
  have h1 := Bk.new (w.alloc (.cells c0 t0)) t1 c1
  have h2 := Bk.new ((w.alloc (.cells c0 t0)).alloc (.cells c1 t1)) t2 c2
  have h3 := Bk.new (((w.alloc (.cells c0 t0)).alloc (.cells c1 t1)).alloc (.cells c2 t2)) t3 c3
  simp only [World.size_alloc] at h1 h2 h3
  exact ⟨((h0.alloc _).alloc _).alloc _, (h1.alloc _).alloc _, h2.alloc _, h3,
    ((((Below.refl _ _).alloc (Nat.le_refl _) _).alloc (by simp) _).alloc (by simp; omega) _).alloc (by simp; omega) _⟩
end

/-- What holds at the head of the outer loop of 'times'. -/
def TimesRel (w : World) (g : Nat) (x0 x1 y0 y1 l00 l01 c01 l10 l11 c11 : Int) (i : Value) (wr : World) : Prop :=
  Bk wr g 46 #[.int .u64 0, .int .u64 0, .int .u64 0, .int .u64 0] ∧ Bk wr (g + 1) 35 #[.int .u64 x0, .int .u64 x1] ∧ Bk wr (g + 1 + 1) 35 #[.int .u64 y0, .int .u64 y1] ∧ Below w.heap.size w wr ∧
  ((i = .int .i64 0 ∧ Bk wr (g + 1 + 1 + 1) 46 #[.int .u64 0, .int .u64 0, .int .u64 0, .int .u64 0]) ∨
   (i = .int .i64 1 ∧ Bk wr (g + 1 + 1 + 1) 46 #[.int .u64 l00, .int .u64 l01, .int .u64 c01, .int .u64 0]) ∨
   (i = .int .i64 2 ∧ Bk wr (g + 1 + 1 + 1) 46 #[.int .u64 l00, .int .u64 l10, .int .u64 l11, .int .u64 c11]))

set_option maxRecDepth 100000 in
set_option maxHeartbeats 4000000 in
theorem times_core (a b x0 x1 y0 y1 p00 l00 c00 p01 n01 l01 c01 p10 n10 l10 c10 p11 n11 n11' l11 c11 : Int) (w : World)
    (b1 : 0 ≤ p00 ∧ p00 ≤ 18446744065119617025) (b2 : 0 ≤ p01 ∧ p01 ≤ 18446744065119617025) (b3 : 0 ≤ p10 ∧ p10 ≤ 18446744065119617025) (b4 : 0 ≤ p11 ∧ p11 ≤ 18446744065119617025)
    (b5 : 0 ≤ c00 ∧ c00 ≤ 4294967295) (b6 : 0 ≤ l01 ∧ l01 ≤ 4294967295) (b7 : 0 ≤ c01 ∧ c01 ≤ 4294967295) (b8 : 0 ≤ c10 ∧ c10 ≤ 4294967295) (b9 : 0 ≤ n11 ∧ n11 ≤ 18446744069414584320)
    (e1 : bits .and .u64 a 4294967295 = x0) (e2 : a / 4294967296 = x1) (e3 : bits .and .u64 b 4294967295 = y0) (e4 : b / 4294967296 = y1)
    (e5 : IntKind.u64.wrap (x0 * y0) = p00) (e6 : bits .and .u64 p00 4294967295 = l00) (e7 : p00 / 4294967296 = c00)
    (e8 : IntKind.u64.wrap (x0 * y1) = p01) (e9 : p01 + c00 = n01) (e10 : bits .and .u64 n01 4294967295 = l01) (e11 : n01 / 4294967296 = c01)
    (e12 : IntKind.u64.wrap (x1 * y0) = p10) (e13 : l01 + p10 = n10) (e14 : bits .and .u64 n10 4294967295 = l10) (e15 : n10 / 4294967296 = c10)
    (e16 : IntKind.u64.wrap (x1 * y1) = p11) (e17 : c01 + p11 = n11) (e18 : n11 + c10 = n11') (e19 : bits .and .u64 n11' 4294967295 = l11) (e20 : n11' / 4294967296 = c11) :
    Calls Tryd.prog 42 #[.int .u64 a, .int .u64 b] w fun e w' => e = .returned (.agg #[.int .u64 l00, .int .u64 l10, .int .u64 l11, .int .u64 c11]) ∧ Below w.heap.size w w' := by
  go_enter Tryd.func42, Tryd.ntmps42
  go_wp2_with fail
  go_loopw [8, 9, 10, 11] (fun i c k n wr => TimesRel w w.heap.size x0 x1 y0 y1 l00 l01 c01 l10 l11 c11 i wr) (fun i _ _ _ _ => (2 - intOf i).toNat)
  case atStart =>
    obtain ⟨s0, s1, s2, s3, sb⟩ := start4 w #[.int .u64 0, .int .u64 0, .int .u64 0, .int .u64 0] #[.int .u64 x0, .int .u64 x1] #[.int .u64 y0, .int .u64 y1] #[.int .u64 0, .int .u64 0, .int .u64 0, .int .u64 0] 46 35 35 46
    exact ⟨s0, s1, s2, sb, .inl ⟨rfl, s3⟩⟩
  case round =>
    obtain ⟨B0, B1, B2, hb, hrel⟩ := hrel
    rcases hrel with ⟨rfl, B3⟩ | ⟨rfl, B3⟩ | ⟨rfl, B3⟩
    · have c0 := B3.cell 0
      have c1 := B3.cell 1
      have c2 := B3.cell 2
      have f0 := B3.frozen 0
      have f1 := B3.frozen 1
      have f2 := B3.frozen 2
      have x0' := B1.cell 0
      have y0' := B2.cell 0
      have y1' := B2.cell 1
      simp at c0 c1 c2 x0' y0' y1'
      have H0 := Lib.hid B0
      have H1 := Lib.hid B1
      have H2 := Lib.hid B2
      have H3 := Lib.hid B3
      have HB := Lib.hid hb
      clear B0 B1 B2 hb B3
      go_wp2_with fail
      refine wp_loop_rounds 3 ?_; rw [rounds_succ]
      go_wp2_with fail
      go_quiet (fail)
      go_wp2_with fail
      rw [rounds_succ]
      go_wp2_with fail
      go_quiet (fail)
      go_wp2_with fail
      rw [rounds_succ]
      go_wp2_with fail
      go_roundw
      case rel => exact ⟨far3 H0.out (by omega) _ _ _ _ _ _ _ _, far3 H1.out (by omega) _ _ _ _ _ _ _ _, far3 H2.out (by omega) _ _ _ _ _ _ _ _, below3 HB.out (by omega) _ _ _ _ _ _ _ _, .inr (.inl ⟨rfl, set3 H3.out _ _ 0 1 2 _ _ _⟩)⟩
      case measure => simp [intOf]
    · have c0 := B3.cell 1
      have c1 := B3.cell 2
      have c2 := B3.cell 3
      have f0 := B3.frozen 1
      have f1 := B3.frozen 2
      have f2 := B3.frozen 3
      have x0' := B1.cell 1
      have y0' := B2.cell 0
      have y1' := B2.cell 1
      simp at c0 c1 c2 x0' y0' y1'
      have H0 := Lib.hid B0
      have H1 := Lib.hid B1
      have H2 := Lib.hid B2
      have H3 := Lib.hid B3
      have HB := Lib.hid hb
      clear B0 B1 B2 hb B3
      go_wp2_with fail
      refine wp_loop_rounds 3 ?_; rw [rounds_succ]
      go_wp2_with fail
      go_quiet (fail)
      go_wp2_with fail
      rw [rounds_succ]
      go_wp2_with fail
      go_quiet (fail)
      go_wp2_with fail
      rw [rounds_succ]
      go_wp2_with fail
      go_roundw
      case rel => exact ⟨far3 H0.out (by omega) _ _ _ _ _ _ _ _, far3 H1.out (by omega) _ _ _ _ _ _ _ _, far3 H2.out (by omega) _ _ _ _ _ _ _ _, below3 HB.out (by omega) _ _ _ _ _ _ _ _, .inr (.inr ⟨rfl, set3 H3.out _ _ 1 2 3 _ _ _⟩)⟩
      case measure => simp [intOf]
    · have c0 := B3.cell 0
      have c1 := B3.cell 1
      have c2 := B3.cell 2
      have c3 := B3.cell 3
      have r0 := B0.cell 0
      have r1 := B0.cell 1
      have r2 := B0.cell 2
      have r3 := B0.cell 3
      have q0 := B0.frozen 0
      have q1 := B0.frozen 1
      have q2 := B0.frozen 2
      have q3 := B0.frozen 3
      simp at c0 c1 c2 c3 r0 r1 r2 r3
      have H0 := Lib.hid B0
      have HB := Lib.hid hb
      clear B0 B1 B2 hb B3
      go_wp2_with fail
      exact bodyPost_ret (v := .agg #[.int .u64 l00, .int .u64 l10, .int .u64 l11, .int .u64 c11]) (by simp [results, Tryd.results42, go_sem, r0, r1, r2, r3]) rfl ⟨rfl, below4 HB.out _ _ _ _ _ _ _ _⟩
end Go.Proofs.YtjmljepndicdmaaDoor
