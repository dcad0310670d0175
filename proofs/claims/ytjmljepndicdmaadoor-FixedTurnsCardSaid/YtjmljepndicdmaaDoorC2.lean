import Derived.Test.YtjmljepndicdmaaDoorC1
set_option linter.unusedVariables false
set_option linter.unusedSimpArgs false
namespace Go.Proofs.YtjmljepndicdmaaDoor
open Go.RowKit

def OverRel (w : World) (dd : Array Value) (P : Int → Int → Array Value → Prop) (i r : Value) (wr : World) : Prop :=
  ∃ (j x : Int) (cs : Array Value), i = .int .i64 j ∧ r = .int .u64 x ∧ P j x cs ∧ Bk wr w.heap.size 46 dd ∧ Bk wr (w.heap.size + 1) 46 #[.int .u64 0, .int .u64 0, .int .u64 0, .int .u64 0] ∧ Bk wr (w.heap.size + 1 + 1) 46 cs ∧ Below w.heap.size w wr

/-- What the walk of 'over' needs to know of its rounds. -/
structure OvSteps (P : Int → Int → Array Value → Prop) (dd : Array Value) (b q0 q1 q2 q3 : Int) : Prop where
  start : P 127 0 #[.int .u64 0, .int .u64 0, .int .u64 0, .int .u64 0]
  bds : ∀ i r cs, P i r cs → -1 ≤ i ∧ i ≤ 127 ∧ 0 ≤ r ∧ r < b
  step : ∀ (i r : Int) cs (k m : Nat), P i r cs → 0 ≤ i → i / 32 = (k : Int) → i % 32 = (m : Int) →
    ∃ l bit s : Int, dd[k]? = some (.int .u64 l) ∧ 0 ≤ l ∧ l < 4294967296 ∧ bits .and .u64 (l / 2 ^ m) 1 = bit ∧ bits .or .u64 (r * 2) bit = s ∧ 0 ≤ s ∧ s < 18446744073709551616 ∧ (s < b → P (i - 1) s cs) ∧
      (b ≤ s → ∃ x y : Int, cs[k]? = some (.int .u64 x) ∧ bits .or .u64 x (IntKind.u64.wrap (2 ^ m)) = y ∧ P (i - 1) (s - b) (cs.setIfInBounds k (.int .u64 y)))
  fin : ∀ r cs, P (-1) r cs → cs = #[.int .u64 q0, .int .u64 q1, .int .u64 q2, .int .u64 q3]

theorem start3 (w : World) (c0 c1 c2 : Array Value) (t0 t1 t2 : TypeId) :
    Bk (((w.alloc (.cells c0 t0)).alloc (.cells c1 t1)).alloc (.cells c2 t2)) w.heap.size t0 c0 ∧
    Bk (((w.alloc (.cells c0 t0)).alloc (.cells c1 t1)).alloc (.cells c2 t2)) (w.heap.size + 1) t1 c1 ∧
    Bk (((w.alloc (.cells c0 t0)).alloc (.cells c1 t1)).alloc (.cells c2 t2)) (w.heap.size + 1 + 1) t2 c2 ∧
    Below w.heap.size w (((w.alloc (.cells c0 t0)).alloc (.cells c1 t1)).alloc (.cells c2 t2)) := by
  have h0 := Bk.new w t0 c0
  have h1 := Bk.new (w.alloc (.cells c0 t0)) t1 c1
  have h2 := Bk.new ((w.alloc (.cells c0 t0)).alloc (.cells c1 t1)) t2 c2
  simp only [World.size_alloc] at h1 h2
  exact ⟨(h0.alloc _).alloc _, h1.alloc _, h2,
    (((Below.refl _ _).alloc (Nat.le_refl _) _).alloc (by simp) _).alloc (by simp; omega) _⟩

theorem below4' {w wr : World} {B g : Nat} (h : Below B w wr) (hg : B ≤ g) (i0 i1 i2 i3 : Nat) (u0 u1 u2 u3 : Value) :
    Below B w ((((wr.setCell ⟨g, i0, none⟩ u0).setCell ⟨g, i1, none⟩ u1).setCell ⟨g, i2, none⟩ u2).setCell ⟨g, i3, none⟩ u3) :=
  (((h.setCell (p := ⟨g, i0, none⟩) hg u0).setCell (p := ⟨g, i1, none⟩) hg u1).setCell (p := ⟨g, i2, none⟩) hg u2).setCell (p := ⟨g, i3, none⟩) hg u3

set_option maxRecDepth 100000 in
set_option maxHeartbeats 2000000 in
theorem over_core (d0 d1 d2 d3 b q0 q1 q2 q3 : Int) (w : World) (P : Int → Int → Array Value → Prop) (hb63 : b ≤ 9223372036854775807)
   (HS : Hid (OvSteps P #[.int .u64 d0, .int .u64 d1, .int .u64 d2, .int .u64 d3] b q0 q1 q2 q3))  :
    Calls Tryd.prog 41 #[.agg #[.int .u64 d0, .int .u64 d1, .int .u64 d2, .int .u64 d3], .int .u64 b] w fun e w' => e = .returned (.agg #[.int .u64 q0, .int .u64 q1, .int .u64 q2, .int .u64 q3]) ∧ Below w.heap.size w w' := by
  go_enter Tryd.func41, Tryd.ntmps41
  go_wp2_with fail
  go_loopw [6, 7, 8] (fun r i t wr => Hid (OverRel w #[.int .u64 d0, .int .u64 d1, .int .u64 d2, .int .u64 d3] P i r wr)) (fun _ i _ _ => (1 + intOf i).toNat)
  case atStart =>
    obtain ⟨s0, s1, s2, sb⟩ := start3 w #[.int .u64 d0, .int .u64 d1, .int .u64 d2, .int .u64 d3] #[.int .u64 0, .int .u64 0, .int .u64 0, .int .u64 0] #[.int .u64 0, .int .u64 0, .int .u64 0, .int .u64 0] 46 46 46
    exact Lib.hid ⟨127, 0, _, rfl, rfl, HS.out.start, s0, s1, s2, sb⟩
  case round =>
    obtain ⟨i, r, cs, rfl, rfl, hp, B0, B1, B2, hb⟩ := hrel.out
    obtain ⟨i0, i1, r0, r1⟩ := HS.out.bds i r cs hp
    have HP := Lib.hid hp
    have C0 := Lib.hid B0
    have C1 := Lib.hid B1
    have C2 := Lib.hid B2
    have CB := Lib.hid hb
    clear hp B0 B1 B2 hb
    by_cases hi : 0 ≤ i
    · obtain ⟨k, e1⟩ : ∃ k : Nat, i / 32 = (k : Int) := ⟨(i / 32).toNat, by omega⟩
      obtain ⟨m, e2⟩ : ∃ m : Nat, i % 32 = (m : Int) := ⟨(i % 32).toNat, by omega⟩
      have hk : k < 4 := by omega
      have hm : m < 32 := by omega
      have e2' : min m 64 = m := by omega
      obtain ⟨l, bit, s, hl, hl0, hl1, eb, es, s0, s1, hno, hyes⟩ := HS.out.step i r cs k m HP.out hi e1 e2
      have hc : wr.cell? ⟨w.heap.size, k, none⟩ = some (.int .u64 l) := (C0.out.cell k).trans hl
      clear hl
      by_cases hsb : b ≤ s
      · obtain ⟨x, y, hx, ey, hP⟩ := hyes hsb
        have hc2 : wr.cell? ⟨w.heap.size + 1 + 1, k, none⟩ = some (.int .u64 x) := (C2.out.cell k).trans hx
        have hf2 := C2.out.frozen k
        have HP2 := Lib.hid hP
        clear hx hP hno hyes
        go_wp2_with fail
        go_roundw
        case rel => exact Lib.hid ⟨i - 1, s - b, _, rfl, rfl, HP2.out, C0.out.far (p := ⟨w.heap.size + 1 + 1, k, none⟩) (by show _ ≠ w.heap.size + 1 + 1; omega) _, C1.out.far (p := ⟨w.heap.size + 1 + 1, k, none⟩) (by show _ ≠ w.heap.size + 1 + 1; omega) _, C2.out.set_ k _, CB.out.setCell (p := ⟨w.heap.size + 1 + 1, k, none⟩) (by show _ ≤ w.heap.size + 1 + 1; omega) _⟩
        case measure => simp [intOf]; omega
      · have hP := hno (by omega)
        have HP2 := Lib.hid hP
        clear hP hno hyes
        go_wp2_with fail
        go_roundw
        case rel => exact Lib.hid ⟨i - 1, s, _, rfl, rfl, HP2.out, C0.out, C1.out, C2.out, CB.out⟩
        case measure => simp [intOf]; omega
    · obtain rfl : i = -1 := by omega
      have hcs := HS.out.fin r cs HP.out
      subst hcs
      have c0 := C2.out.cell 0
      have c1 := C2.out.cell 1
      have c2 := C2.out.cell 2
      have c3 := C2.out.cell 3
      have r0 := C1.out.cell 0
      have r1 := C1.out.cell 1
      have r2 := C1.out.cell 2
      have r3 := C1.out.cell 3
      have z0 := C1.out.frozen 0
      have z1 := C1.out.frozen 1
      have z2 := C1.out.frozen 2
      have z3 := C1.out.frozen 3
      simp at c0 c1 c2 c3 r0 r1 r2 r3
      go_wp2_with fail
      exact bodyPost_ret (v := .agg #[.int .u64 q0, .int .u64 q1, .int .u64 q2, .int .u64 q3]) (by simp [results, Tryd.results41, go_sem, r0, r1, r2, r3]) rfl ⟨rfl, below4' CB.out (by omega) _ _ _ _ _ _ _ _⟩
end Go.Proofs.YtjmljepndicdmaaDoor
