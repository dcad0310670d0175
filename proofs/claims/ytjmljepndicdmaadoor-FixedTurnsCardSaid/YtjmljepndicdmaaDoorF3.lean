import Derived.Test.YtjmljepndicdmaaDoorF2
set_option linter.unusedVariables false
set_option linter.unusedSimpArgs false
namespace Go.Proofs.YtjmljepndicdmaaDoor
open Go.RowKit

def FRel (w : World) (g : Nat) (V : Int → Nat → Prop) (i : Value) (wr : World) : Prop :=
  ∃ (j : Int) (X : Nat), i = .int .i64 j ∧ V j X ∧ Bk wr g 46 (arr X) ∧ Below w.heap.size w wr

/-- What the two loops keep: the size that is meant. -/
structure FV (N : Nat) (i : Int) (X : Nat) : Prop where
  small : X < 79228162514264337593543950336
  lo : 1 ≤ i
  hi : i ≤ 2046
  up : 1075 ≤ i → N = X * 2 ^ (i - 1075).toNat
  down : i ≤ 1075 → N = X / 2 ^ (1075 - i).toNat

theorem FV.shl {N : Nat} {i : Int} {X : Nat} (h : FV N i X) (hi : 1075 < i) (hs : ¬ 79228162514264337593543950336 ≤ 2 * X) : FV N (i - 1) (2 * X) := by
  have e : (i - 1075).toNat = (i - 1 - 1075).toNat + 1 := by omega
  refine ⟨Nat.lt_of_not_le hs, by omega, by have := h.hi; omega, fun _ => ?_, fun h2 => ?_⟩
  · rw [h.up (by omega), e, Nat.pow_succ, Nat.mul_comm 2 X, Nat.mul_assoc, Nat.mul_comm 2]
  · obtain rfl : i = 1076 := by omega
    rw [h.up (by omega)]
    show X * 2 ^ 1 = 2 * X / 2 ^ 0
    rw [Nat.pow_zero, Nat.div_one, Nat.pow_one, Nat.mul_comm]
theorem FV.big {N : Nat} {i : Int} {X : Nat} (h : FV N i X) (hi : 1075 < i) (hs : 79228162514264337593543950336 ≤ 2 * X) (m : Bool) : szF N m = szF 18446744073709551616 m := by
  have e : (i - 1075).toNat = (i - 1 - 1075).toNat + 1 := by omega
  have hN : 2 * X ≤ N := by
    rw [h.up (by omega), e, Nat.pow_succ, Nat.mul_comm 2 X, Nat.mul_comm (2 ^ _) 2, ← Nat.mul_assoc]
    exact Nat.le_mul_of_pos_right _ (Nat.two_pow_pos _)
  have h3 : 79228162514264337593543950336 ≤ N := Nat.le_trans hs hN
  have h4 : ¬ N < 9223372036854775808 := Nat.not_lt.2 (Nat.le_trans (by decide) h3)
  unfold szF
  rw [if_neg h4]
  rfl
theorem FV.shr {N : Nat} {i : Int} {X : Nat} (h : FV N i X) (hi : i < 1075) : FV N (i + 1) (X / 2) := by
  have e : (1075 - i).toNat = (1075 - (i + 1)).toNat + 1 := by omega
  refine ⟨Nat.lt_of_le_of_lt (Nat.div_le_self _ _) h.small, by have := h.lo; omega, by omega, fun h2 => ?_, fun _ => ?_⟩
  · obtain rfl : i = 1074 := by omega
    rw [h.down (by omega)]
    show X / 2 ^ 1 = X / 2 * 2 ^ 0
    rw [Nat.pow_zero, Nat.mul_one, Nat.pow_one]
  · rw [h.down (by omega), e, Nat.pow_succ', Nat.div_div_eq_div_mul]
theorem FV.fin {N : Nat} {X : Nat} (h : FV N 1075 X) : N = X := by
  have := h.up (by omega)
  rw [this]
  show X * 2 ^ 0 = X
  rw [Nat.pow_zero, Nat.mul_one]

theorem farW4 {w wr : World} {g : Nat} {cs : Array Value} {t : TypeId} (h : Bk wr g t cs) (i0 i1 i2 i3 : Nat) (u0 u1 u2 u3 : Value) :
    Bk ((((wr.setCell ⟨g, i0, none⟩ u0).setCell ⟨g, i1, none⟩ u1).setCell ⟨g, i2, none⟩ u2).setCell ⟨g, i3, none⟩ u3) g t ((((cs.setIfInBounds i0 u0).setIfInBounds i1 u1).setIfInBounds i2 u2).setIfInBounds i3 u3) :=
  (((h.set_ i0 u0).set_ i1 u1).set_ i2 u2).set_ i3 u3

set_option maxRecDepth 100000 in
set_option maxHeartbeats 4000000 in
theorem rfloat_pos (b e m m' : Int) (mns : Bool) (w : World) (N P : Nat) (b0 : 0 ≤ b) (b1 : b < 18446744073709551616) (e1 : (b / 9223372036854775808 == 1) = mns)
    (e2 : bits .and .u64 (b / 4503599627370496) 2047 = e) (e3 : bits .and .u64 b 4503599627370495 = m) (he0 : 0 < e) (he : e < 2047) (e4 : bits .or .u64 m 4503599627370496 = m')
    (HT : Hid (∀ W, Calls Tryd.prog 42 #[.int .u64 m', .int .u64 1000000] W fun e w' => e = .returned (.agg (arr P)) ∧ Below W.heap.size W w'))
    (HF : Hid (FV N e P)) :
    Calls Tryd.prog 26 #[.int .u64 b] w fun e w' => e = .returned (.tuple #[.int .i64 (szF N mns), .int .i64 0]) ∧ Below w.heap.size w w' := by
  obtain ⟨d0, d1, d2, d3, hd⟩ : ∃ d0 d1 d2 d3 : Int, arr P = #[.int .u64 d0, .int .u64 d1, .int .u64 d2, .int .u64 d3] := ⟨_, _, _, _, rfl⟩
  have HT' := HT.out
  rw [hd] at HT'
  have HT2 := Lib.hid HT'
  have HD := Lib.hid hd
  clear HT HT' hd
  go_enter Tryd.func26, Tryd.ntmps26
  go_wp2_with fail
  refine (HT2.out _).mono ?_; rintro e' w2 ⟨rfl, hb⟩
  have HB2 := Lib.hid hb
  clear hb
  go_wp2_with fail
  go_loopw [5, 8, 9, 10] (fun i a b c wr => Hid (FRel w w2.heap.size (FV N) i wr)) (fun i _ _ _ _ => (intOf i).toNat)
  case atStart =>
    exact Lib.hid ⟨_, P, rfl, HF.out, by rw [HD.out]; exact Bk.new w2 46 _, HB2.out.alloc HB2.out.size _⟩
  case round =>
    obtain ⟨i, X, rfl, hv, B, hb⟩ := hrel.out
    clear hrel
    have hsz2 := HB2.out.size
    have ilo := hv.lo
    have ihi := hv.hi
    have HV := Lib.hid hv
    have HB0 := Lib.hid B
    have HBW := Lib.hid hb
    clear hv hb
    by_cases hi : 1075 < i
    · obtain ⟨l0, l1, l2, l3, n0, n1, n2, n3, a0, a1, a2, a3, k0, k1, k2, hA, hA2, p0, p1, p2, p3, p4, p5, p6, s0, s1, s2, s3, s4, s5, s6, s7, s8, s9, s10, s11, s12⟩ := shl_facts X HV.out.small
      have HA2 := Lib.hid hA2
      rw [hA] at B
      have c0 := B.cell 0
      have c1 := B.cell 1
      have c2 := B.cell 2
      have c3 := B.cell 3
      have f0 := B.frozen 0
      have f1 := B.frozen 1
      have f2 := B.frozen 2
      have f3 := B.frozen 3
      simp at c0 c1 c2 c3
      have HB := Lib.hid B
      clear B hA hA2
      by_cases hbig : 79228162514264337593543950336 ≤ 2 * X
      · have hfin := HV.out.big hi hbig mns
        have HS := Lib.hid (fun W => sized_arr 18446744073709551616 mns W (by decide))
        have HFIN := Lib.hid hfin
        have t1 : (a3 != 0) = true := by rw [s12]; exact decide_eq_true hbig
        clear s12 hbig hfin
        go_wp2_with fail
        refine wp_loop_rounds 5 ?_; rw [rounds_succ]
        go_wp2_with fail
        rw [rounds_succ]
        go_wp2_with fail
        rw [rounds_succ]
        go_wp2_with fail
        rw [rounds_succ]
        go_wp2_with fail
        rw [rounds_succ]
        go_wp2_with fail
        refine (HS.out _).mono ?_; rintro e' w3 ⟨rfl, hb3⟩
        go_wp2_with fail
        go_ret2
        rw [HFIN.out]
        exact ⟨rfl, (below4' HBW.out (by omega) 0 1 2 3 _ _ _ _).trans (hb3.mono (by have := HBW.out.size; simp; omega))⟩
      · have FVn := Lib.hid (HV.out.shl hi hbig)
        have t1 : (a3 != 0) = false := by rw [s12]; exact decide_eq_false hbig
        clear s12 hbig
        go_wp2_with fail
        refine wp_loop_rounds 5 ?_; rw [rounds_succ]
        go_wp2_with fail
        rw [rounds_succ]
        go_wp2_with fail
        rw [rounds_succ]
        go_wp2_with fail
        rw [rounds_succ]
        go_wp2_with fail
        rw [rounds_succ]
        go_wp2_with fail
        go_roundw
        case rel => exact Lib.hid ⟨i - 1, 2 * X, rfl, FVn.out, by rw [HA2.out]; exact farW4 (w := w) HB.out 0 1 2 3 _ _ _ _, below4' HBW.out (by omega) _ _ _ _ _ _ _ _⟩
        case measure => simp [intOf]; omega
    · clear B
      go_wp2_with fail
      go_loopw [5, 11, 12, 13] (fun i a b c wr => Hid (FRel w w2.heap.size (fun i X => FV N i X ∧ i ≤ 1075) i wr)) (fun i _ _ _ _ => (1075 - intOf i).toNat)
      case atStart => exact Lib.hid ⟨i, X, rfl, ⟨HV.out, by omega⟩, HB0.out, HBW.out⟩
      case round =>
        obtain ⟨i', X', rfl, ⟨hv', hi'⟩, B, hb⟩ := hrel.out
        clear hrel
        have HV' := Lib.hid hv'
        have lo' := hv'.lo
        have HBW' := Lib.hid hb
        clear hv' hb
        by_cases hlt : i' < 1075
        · obtain ⟨l0, l1, l2, l3, a0, a1, a2, a3, k1, k2, k3, hA, hA2, p0, p1, p2, p3, p4, p5, p6, s0, s1, s2, s3, s4, s5, s6⟩ := shr_facts X' (Nat.lt_trans HV'.out.small (by decide))
          have FVn := Lib.hid (HV'.out.shr hlt)
          have HA2 := Lib.hid hA2
          rw [hA] at B
          have c0 := B.cell 0
          have c1 := B.cell 1
          have c2 := B.cell 2
          have c3 := B.cell 3
          have f0 := B.frozen 0
          have f1 := B.frozen 1
          have f2 := B.frozen 2
          have f3 := B.frozen 3
          simp at c0 c1 c2 c3
          have HB := Lib.hid B
          clear B hA hA2 HV'
          go_wp2_with fail
          refine wp_loop_rounds 5 ?_; rw [rounds_succ]
          go_wp2_with fail
          rw [rounds_succ]
          go_wp2_with fail
          rw [rounds_succ]
          go_wp2_with fail
          rw [rounds_succ]
          go_wp2_with fail
          rw [rounds_succ]
          go_wp2_with fail
          go_roundw
          case rel => exact Lib.hid ⟨i' + 1, X' / 2, rfl, ⟨FVn.out, by omega⟩, by rw [HA2.out]; exact farW4 (w := w) HB.out 3 2 1 0 _ _ _ _, below4' HBW'.out (by omega) _ _ _ _ _ _ _ _⟩
          case measure => simp [intOf]; omega
        · obtain rfl : i' = 1075 := by omega
          have hN : N = X' := HV'.out.fin
          subst hN
          have hsz := sized_arr N mns
          unfold arr at hsz B
          have HS := Lib.hid (fun W => hsz W (Nat.lt_trans HV'.out.small (by decide)))
          clear hsz
          have c0 := B.cell 0
          have c1 := B.cell 1
          have c2 := B.cell 2
          have c3 := B.cell 3
          have f0 := B.frozen 0
          have f1 := B.frozen 1
          have f2 := B.frozen 2
          have f3 := B.frozen 3
          simp at c0 c1 c2 c3
          clear B HV'
          go_wp2_with fail
          refine (HS.out _).mono ?_; rintro e' w3 ⟨rfl, hb3⟩
          go_wp2_with fail
          go_ret2
          exact ⟨rfl, HBW'.out.trans (hb3.mono HBW'.out.size)⟩

set_option maxRecDepth 100000 in
set_option maxHeartbeats 4000000 in
theorem rfloat_zero (b e m m' : Int) (mns : Bool) (w : World) (N P : Nat) (b0 : 0 ≤ b) (b1 : b < 18446744073709551616) (e1 : (b / 9223372036854775808 == 1) = mns)
    (e2 : bits .and .u64 (b / 4503599627370496) 2047 = 0) (e3 : bits .and .u64 b 4503599627370495 = m') (he1 : e = 1)
    (HT : Hid (∀ W, Calls Tryd.prog 42 #[.int .u64 m', .int .u64 1000000] W fun e w' => e = .returned (.agg (arr P)) ∧ Below W.heap.size W w'))
    (HF : Hid (FV N e P)) :
    Calls Tryd.prog 26 #[.int .u64 b] w fun e w' => e = .returned (.tuple #[.int .i64 (szF N mns), .int .i64 0]) ∧ Below w.heap.size w w' := by
  subst he1
  obtain ⟨d0, d1, d2, d3, hd⟩ : ∃ d0 d1 d2 d3 : Int, arr P = #[.int .u64 d0, .int .u64 d1, .int .u64 d2, .int .u64 d3] := ⟨_, _, _, _, rfl⟩
  have HT' := HT.out
  rw [hd] at HT'
  have HT2 := Lib.hid HT'
  have HD := Lib.hid hd
  clear HT HT' hd
  go_enter Tryd.func26, Tryd.ntmps26
  go_wp2_with fail
  refine (HT2.out _).mono ?_; rintro e' w2 ⟨rfl, hb⟩
  have HB2 := Lib.hid hb
  clear hb
  go_wp2_with fail
  go_loopw [5, 8, 9, 10] (fun i a b c wr => Hid (FRel w w2.heap.size (FV N) i wr)) (fun i _ _ _ _ => (intOf i).toNat)
  case atStart =>
    exact Lib.hid ⟨_, P, rfl, HF.out, by rw [HD.out]; exact Bk.new w2 46 _, HB2.out.alloc HB2.out.size _⟩
  case round =>
    obtain ⟨i, X, rfl, hv, B, hb⟩ := hrel.out
    clear hrel
    have hsz2 := HB2.out.size
    have ilo := hv.lo
    have ihi := hv.hi
    have HV := Lib.hid hv
    have HB0 := Lib.hid B
    have HBW := Lib.hid hb
    clear hv hb
    by_cases hi : 1075 < i
    · obtain ⟨l0, l1, l2, l3, n0, n1, n2, n3, a0, a1, a2, a3, k0, k1, k2, hA, hA2, p0, p1, p2, p3, p4, p5, p6, s0, s1, s2, s3, s4, s5, s6, s7, s8, s9, s10, s11, s12⟩ := shl_facts X HV.out.small
      have HA2 := Lib.hid hA2
      rw [hA] at B
      have c0 := B.cell 0
      have c1 := B.cell 1
      have c2 := B.cell 2
      have c3 := B.cell 3
      have f0 := B.frozen 0
      have f1 := B.frozen 1
      have f2 := B.frozen 2
      have f3 := B.frozen 3
      simp at c0 c1 c2 c3
      have HB := Lib.hid B
      clear B hA hA2
      by_cases hbig : 79228162514264337593543950336 ≤ 2 * X
      · have hfin := HV.out.big hi hbig mns
        have HS := Lib.hid (fun W => sized_arr 18446744073709551616 mns W (by decide))
        have HFIN := Lib.hid hfin
        have t1 : (a3 != 0) = true := by rw [s12]; exact decide_eq_true hbig
        clear s12 hbig hfin
        go_wp2_with fail
        refine wp_loop_rounds 5 ?_; rw [rounds_succ]
        go_wp2_with fail
        rw [rounds_succ]
        go_wp2_with fail
        rw [rounds_succ]
        go_wp2_with fail
        rw [rounds_succ]
        go_wp2_with fail
        rw [rounds_succ]
        go_wp2_with fail
        refine (HS.out _).mono ?_; rintro e' w3 ⟨rfl, hb3⟩
        go_wp2_with fail
        go_ret2
        rw [HFIN.out]
        exact ⟨rfl, (below4' HBW.out (by omega) 0 1 2 3 _ _ _ _).trans (hb3.mono (by have := HBW.out.size; simp; omega))⟩
      · have FVn := Lib.hid (HV.out.shl hi hbig)
        have t1 : (a3 != 0) = false := by rw [s12]; exact decide_eq_false hbig
        clear s12 hbig
        go_wp2_with fail
        refine wp_loop_rounds 5 ?_; rw [rounds_succ]
        go_wp2_with fail
        rw [rounds_succ]
        go_wp2_with fail
        rw [rounds_succ]
        go_wp2_with fail
        rw [rounds_succ]
        go_wp2_with fail
        rw [rounds_succ]
        go_wp2_with fail
        go_roundw
        case rel => exact Lib.hid ⟨i - 1, 2 * X, rfl, FVn.out, by rw [HA2.out]; exact farW4 (w := w) HB.out 0 1 2 3 _ _ _ _, below4' HBW.out (by omega) _ _ _ _ _ _ _ _⟩
        case measure => simp [intOf]; omega
    · clear B
      go_wp2_with fail
      go_loopw [5, 11, 12, 13] (fun i a b c wr => Hid (FRel w w2.heap.size (fun i X => FV N i X ∧ i ≤ 1075) i wr)) (fun i _ _ _ _ => (1075 - intOf i).toNat)
      case atStart => exact Lib.hid ⟨i, X, rfl, ⟨HV.out, by omega⟩, HB0.out, HBW.out⟩
      case round =>
        obtain ⟨i', X', rfl, ⟨hv', hi'⟩, B, hb⟩ := hrel.out
        clear hrel
        have HV' := Lib.hid hv'
        have lo' := hv'.lo
        have HBW' := Lib.hid hb
        clear hv' hb
        by_cases hlt : i' < 1075
        · obtain ⟨l0, l1, l2, l3, a0, a1, a2, a3, k1, k2, k3, hA, hA2, p0, p1, p2, p3, p4, p5, p6, s0, s1, s2, s3, s4, s5, s6⟩ := shr_facts X' (Nat.lt_trans HV'.out.small (by decide))
          have FVn := Lib.hid (HV'.out.shr hlt)
          have HA2 := Lib.hid hA2
          rw [hA] at B
          have c0 := B.cell 0
          have c1 := B.cell 1
          have c2 := B.cell 2
          have c3 := B.cell 3
          have f0 := B.frozen 0
          have f1 := B.frozen 1
          have f2 := B.frozen 2
          have f3 := B.frozen 3
          simp at c0 c1 c2 c3
          have HB := Lib.hid B
          clear B hA hA2 HV'
          go_wp2_with fail
          refine wp_loop_rounds 5 ?_; rw [rounds_succ]
          go_wp2_with fail
          rw [rounds_succ]
          go_wp2_with fail
          rw [rounds_succ]
          go_wp2_with fail
          rw [rounds_succ]
          go_wp2_with fail
          rw [rounds_succ]
          go_wp2_with fail
          go_roundw
          case rel => exact Lib.hid ⟨i' + 1, X' / 2, rfl, ⟨FVn.out, by omega⟩, by rw [HA2.out]; exact farW4 (w := w) HB.out 3 2 1 0 _ _ _ _, below4' HBW'.out (by omega) _ _ _ _ _ _ _ _⟩
          case measure => simp [intOf]; omega
        · obtain rfl : i' = 1075 := by omega
          have hN : N = X' := HV'.out.fin
          subst hN
          have hsz := sized_arr N mns
          unfold arr at hsz B
          have HS := Lib.hid (fun W => hsz W (Nat.lt_trans HV'.out.small (by decide)))
          clear hsz
          have c0 := B.cell 0
          have c1 := B.cell 1
          have c2 := B.cell 2
          have c3 := B.cell 3
          have f0 := B.frozen 0
          have f1 := B.frozen 1
          have f2 := B.frozen 2
          have f3 := B.frozen 3
          simp at c0 c1 c2 c3
          clear B HV'
          go_wp2_with fail
          refine (HS.out _).mono ?_; rintro e' w3 ⟨rfl, hb3⟩
          go_wp2_with fail
          go_ret2
          exact ⟨rfl, HBW'.out.trans (hb3.mono HBW'.out.size)⟩
end Go.Proofs.YtjmljepndicdmaaDoor
