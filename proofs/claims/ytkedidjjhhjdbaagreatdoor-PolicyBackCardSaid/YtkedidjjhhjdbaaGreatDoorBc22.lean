import Derived.Test.YtkedidjjhhjdbaaGreatDoorBc0
import Derived.Test.YtkedidjjhhjdbaaGreatDoorBc21
set_option linter.unusedVariables false
set_option linter.unusedSimpArgs false
namespace Go.Proofs.YtkedidjjhhjdbaaGreatDoor.Pr
open Go.RowKit Go.Proofs.YtkedidjjhhjdbaaGreatDoorW.PrintWords Go.Proofs.YtkedidjjhhjdbaaGreatDoorW.PrintLast Go.Proofs.YtkedidjjhhjdbaaGreatDoorW.PrintMore
def belfryref11_Same.go (k : Nat) : List S46 → List S46 → Option Bool
  | x :: a, y :: b =>
    if x.f0 = y.f0 then
      if x.f1 = y.f1 then
        if x.f2.toList = y.f2.toList then
          (belfryref04_SameMatch.f k x.f3 y.f3).bind fun b1 => if b1 = true then (belfryref11_texts.f k x.f4 y.f4).bind fun b2 => if b2 = true then belfryref11_Same.go k a b else some false else some false
        else some false
      else some false
    else some false
  | _, _ => some true
theorem belfryref11_Same.go_nil (k : Nat) (m : List S46) : belfryref11_Same.go k [] m = some true := by
 cases m <;> rfl
def belfryref11_Same.f (k : Nat) (l m : List S46) : Option Bool := if l.length = m.length then belfryref11_Same.go k l m else some false
set_option maxHeartbeats 16000000 in
set_option maxRecDepth 100000 in
theorem belfryref11_Same.calls (k : Nat) (A0 A1 : Option Addr) (c0 c1 : Nat) (l l2 : List S46) (r : Bool) (w : World) (hr0 : Kd.C k46 w A0 l.length l) (hr1 : Kd.C k46 w A1 l2.length l2) (hc0 : l.length ≤ c0) (hc1 : l2.length ≤ c1)
  (h : belfryref11_Same.f k l l2 = some r) :
  Calls Tryz.prog 14 #[.slice A0 l.length c0, .slice A1 l2.length c1] w fun e w' => e = .returned (.bool r) ∧ Drawn0 w w' := by
 unfold belfryref11_Same.f at h
 have HR0 := Aside0.mk hr0; have HR1 := Aside0.mk hr1
 have hl9 : l.length ≤ 9223372036854775807 := hr0.2.1
 have hl8 : l2.length ≤ 9223372036854775807 := hr1.2.1
 clear hr0 hr1; by_cases hl : l.length = l2.length; rotate_left
 ·
  rw [if_neg hl] at h; cases h
  have f0 : ((l.length : Int) != (l2.length : Int)) = true := bne_iff_ne.mpr (by omega)
  have f1 : decide ((l.length : Int) ≠ (l2.length : Int)) = true := decide_eq_true (by omega)
  clear hl
  go_enter Tryz.func14, Tryz.ntmps14
  go_wp2; go_ret
  exact ⟨rfl, ⟨0, rfl⟩⟩
 rw [if_pos hl] at h; have HH := Aside0.mk h; have HL := Aside0.mk hl
 have f0 : ((l.length : Int) != (l2.length : Int)) = false := by rw [hl]; simp
 have f1 : decide ((l.length : Int) ≠ (l2.length : Int)) = false := decide_eq_false (fun h => h (by rw [hl]))
 clear h hl
 go_enter Tryz.func14, Tryz.ntmps14
 go_wp2
 go_loopw [5] (fun v5 wr => ∃ i : Nat, i ≤ l.length ∧ v5 = .int .i64 i ∧ Drawn0 w wr ∧ Aside0 (belfryref11_Same.go k (l.drop i) (l2.drop i) = some r)) (fun v5 _ => l.length - (intOf v5).toNat)
 case atStart => exact ⟨0, Nat.zero_le _, rfl, Drawn0.refl _, HH⟩
 case round =>
  obtain ⟨i, hi, rfl, ⟨m, rfl⟩, HP⟩ := hrel
  clear HH; by_cases hlt : i < l.length; rotate_left
  ·
   obtain rfl : i = l.length := by omega
   have b0 : decide ((l.length : Int) < (l.length : Int)) = false := decide_eq_false (by omega)
   have b1 : decide (l.length < l.length) = false := decide_eq_false hlt
   have hp := HP.out; rw [List.drop_eq_nil_of_le (Nat.le_refl _), belfryref11_Same.go_nil] at hp; cases hp; go_wp2; go_ret
   exact ⟨rfl, ⟨_, rfl⟩⟩
  have hlt2 : i < l2.length := by have := HL.out; omega
  have b0 : decide ((i : Int) < (l.length : Int)) = true := decide_eq_true (by omega)
  have b1 : decide (i < l.length) = true := decide_eq_true hlt
  have p0 : (0 : Int) ≤ (i : Int) := by omega
  have q0 : (i : Int) < (l.length : Int) := by omega
  have q2 : (i : Int) < (l2.length : Int) := by omega
  obtain ⟨ad, A3, c3, A4, c4, e9, hx0, hx1, hx2, hx3, hx4, l3, g3, l4, g4⟩ := at_T46 HR0.out (i : Int) p0 q0
  obtain ⟨bd, B3, d3, B4, d4, e8, hy0, hy1, hy2, hy3, hy4, n3, k3, n4, k4⟩ := at_T46 HR1.out (i : Int) p0 q2
  cases e9; cases e8
  rw [List.drop_eq_getElem_cons hlt, List.drop_eq_getElem_cons hlt2, show l[i] = rd_T46 l (i : Int) by simp [rd_T46, List.getD, List.getElem?_eq_getElem hlt], show l2[i] = rd_T46 l2 (i : Int) by simp [rd_T46, List.getD, List.getElem?_eq_getElem hlt2], belfryref11_Same.go] at HP
  rw [Int.toNat_natCast] at hx0 hx1 hx2 hx3 hx4 hy0 hy1 hy2 hy3 hy4
  generalize rd_T46 l (i : Int) = x at *
  generalize rd_T46 l2 (i : Int) = y at *
  have HG3 := Aside0.mk g3; have HG4 := Aside0.mk g4; have HK3 := Aside0.mk k3; have HK4 := Aside0.mk k4; have hp := HP.out; clear g3 g4 k3 k4 HP f0 f1; replace p0 := eq_true p0; replace q0 := eq_true q0; replace q2 := eq_true q2; by_cases d0 : x.f0 = y.f0; rotate_left
  ·
   rw [if_neg d0] at hp
   have z0 : (x.f0 != y.f0) = true := bne_iff_ne.mpr d0
   have z0x : (x.f0 == y.f0) = false := beq_eq_false_iff_ne.mpr d0
   clear d0
   go_upto_region 6 with (fail)
   refine start_ (n := 65) (S := fun w' => Drawn0 w w') (ds := []) (bA 65 0) (by kernel_rfl) rfl rfl ⟨m + 1, rfl⟩ (fun hHeld => ?_)
   refine with_tabW belfryref11_Same.tab6 belfryref11_Same.bits6 (fun HT_ HW_ => ?_)
   generalize (w.drewN m).drew = W0 at hHeld ⊢
   refine purA 0 (some 17) (bA 65 1) HT_ ?_
   refine purA 1 (some 18) (bA 65 3) HT_ ?_
   refine purA 2 (some 19) (bA 65 7) HT_ ?_
   refine purA 3 (some 20) (bA 65 15) HT_ ?_
   refine take_ (i := 4) (N := some 21) (v := ?_) (a' := ?_) (bA 65 31) rfl rfl (take_ofW HT_.out HW_.out (by kernel_rfl)) (fun _ _ _ h => h) (Or.inl ⟨by rfl, ?_⟩) hHeld ?_ ?_
   rotate_left
   ·
    rintro w' ⟨mm, rfl⟩
    go_simp; with_reducible rfl
   rotate_left
   · simp only [Act.put, List.setIfInBounds_toArray, List.set_cons_zero, List.set_cons_succ, i64_w, i32_w]; rfl
   refine purA 5 (some 22) (bA 65 63) HT_ ?_
   refine purA 6 (some 23) (bA 65 127) HT_ ?_
   refine purA 7 (some 24) (bA 65 255) HT_ ?_
   refine purA 8 (some 25) (bA 65 511) HT_ ?_
   refine take_ (i := 9) (N := some 26) (v := ?_) (a' := ?_) (bA 65 1023) rfl rfl (take_ofW HT_.out HW_.out (by kernel_rfl)) (fun _ _ _ h => h) (Or.inl ⟨by rfl, ?_⟩) hHeld ?_ ?_
   rotate_left
   ·
    rintro w' ⟨mm, rfl⟩
    go_simp; with_reducible rfl
   rotate_left
   · simp only [Act.put, List.setIfInBounds_toArray, List.set_cons_zero, List.set_cons_succ, i64_w, i32_w]; rfl
   refine purA 10 (some 27) (bA 65 2047) HT_ ?_
   refine purA 11 (some 28) (bA 65 4095) HT_ ?_
   refine offA 12 (some 29) (bA 65 8191) HT_ ?_
   refine offA 13 (some 30) (bA 65 16383) HT_ ?_
   refine offA 14 (some 31) (bA 65 32767) HT_ ?_
   refine offA 15 (some 32) (bA 65 65535) HT_ ?_
   refine offA 16 (some 33) (bA 65 131071) HT_ ?_
   refine offA 17 (some 34) (bA 65 262143) HT_ ?_
   refine offA 18 (some 35) (bA 65 524287) HT_ ?_
   refine offA 19 (some 36) (bA 65 1048575) HT_ ?_
   refine offA 20 (some 37) (bA 65 2097151) HT_ ?_
   refine offA 21 (some 38) (bA 65 4194303) HT_ ?_
   refine offA 22 (some 39) (bA 65 8388607) HT_ ?_
   refine purA 23 (some 40) (bA 65 16777215) HT_ ?_
   refine purA 24 (some 41) (bA 65 33554431) HT_ ?_
   refine offA 25 (some 42) (bA 65 67108863) HT_ ?_
   refine offA 26 (some 43) (bA 65 134217727) HT_ ?_
   refine offA 27 (some 44) (bA 65 268435455) HT_ ?_
   refine offA 28 (some 45) (bA 65 536870911) HT_ ?_
   refine offA 29 (some 46) (bA 65 1073741823) HT_ ?_
   refine offA 30 (some 47) (bA 65 2147483647) HT_ ?_
   refine offA 31 (some 48) (bA 65 4294967295) HT_ ?_
   refine offA 32 (some 49) (bA 65 8589934591) HT_ ?_
   refine offA 33 (some 50) (bA 65 17179869183) HT_ ?_
   refine offA 34 (some 51) (bA 65 34359738367) HT_ ?_
   refine offA 35 (some 52) (bA 65 68719476735) HT_ ?_
   refine purA 36 (some 53) (bA 65 137438953471) HT_ ?_
   refine purA 37 (some 54) (bA 65 274877906943) HT_ ?_
   refine offA 38 (some 55) (bA 65 549755813887) HT_ ?_
   refine offA 39 (some 56) (bA 65 1099511627775) HT_ ?_
   refine offA 40 (some 57) (bA 65 2199023255551) HT_ ?_
   refine offA 41 (some 58) (bA 65 4398046511103) HT_ ?_
   refine offA 42 (some 59) (bA 65 8796093022207) HT_ ?_
   refine offA 43 (some 60) (bA 65 17592186044415) HT_ ?_
   refine offA 44 (some 61) (bA 65 35184372088831) HT_ ?_
   refine offA 45 (some 62) (bA 65 70368744177663) HT_ ?_
   refine offA 46 (some 63) (bA 65 140737488355327) HT_ ?_
   refine offA 47 (some 64) (bA 65 281474976710655) HT_ ?_
   refine offA 48 (some 65) (bA 65 562949953421311) HT_ ?_
   refine offA 49 (some 66) (bA 65 1125899906842623) HT_ ?_
   refine purA 50 (some 67) (bA 65 2251799813685247) HT_ ?_
   refine purA 51 (some 68) (bA 65 4503599627370495) HT_ ?_
   refine offA 52 (some 69) (bA 65 9007199254740991) HT_ ?_
   refine offA 53 (some 70) (bA 65 18014398509481983) HT_ ?_
   refine offA 54 (some 71) (bA 65 36028797018963967) HT_ ?_
   refine offA 55 (some 72) (bA 65 72057594037927935) HT_ ?_
   refine offA 56 (some 73) (bA 65 144115188075855871) HT_ ?_
   refine offA 57 (some 74) (bA 65 288230376151711743) HT_ ?_
   refine offA 58 (some 75) (bA 65 576460752303423487) HT_ ?_
   refine offA 59 (some 76) (bA 65 1152921504606846975) HT_ ?_
   refine offA 60 (some 77) (bA 65 2305843009213693951) HT_ ?_
   refine offA 61 (some 78) (bA 65 4611686018427387903) HT_ ?_
   refine offA 62 (some 79) (bA 65 9223372036854775807) HT_ ?_
   refine offA 63 (some 80) (bA 65 18446744073709551615) HT_ ?_
   refine purA 64 (some 81) (bA 65 36893488147419103231) HT_ ?_
   refine done_ (done_of HT_.out (by kernel_rfl)) ?_
   cases hp; go_wp2; go_ret
   exact ⟨rfl, hHeld⟩
  rw [if_pos d0] at hp
  have z0 : (x.f0 != y.f0) = false := by simp [d0]
  have z0x : (x.f0 == y.f0) = true := by simp [d0]
  clear d0; by_cases d1 : x.f1 = y.f1; rotate_left
  ·
   rw [if_neg d1] at hp
   have z1 : (x.f1 != y.f1) = true := bne_iff_ne.mpr d1
   have z1x : (x.f1 == y.f1) = false := beq_eq_false_iff_ne.mpr d1
   clear d1
   go_upto_region 6 with (fail)
   refine start_ (n := 65) (S := fun w' => Drawn0 w w') (ds := []) (bA 65 0) (by kernel_rfl) rfl rfl ⟨m + 1, rfl⟩ (fun hHeld => ?_)
   refine with_tabW belfryref11_Same.tab6 belfryref11_Same.bits6 (fun HT_ HW_ => ?_)
   generalize (w.drewN m).drew = W0 at hHeld ⊢
   refine purA 0 (some 17) (bA 65 1) HT_ ?_
   refine purA 1 (some 18) (bA 65 3) HT_ ?_
   refine purA 2 (some 19) (bA 65 7) HT_ ?_
   refine purA 3 (some 20) (bA 65 15) HT_ ?_
   refine take_ (i := 4) (N := some 21) (v := ?_) (a' := ?_) (bA 65 31) rfl rfl (take_ofW HT_.out HW_.out (by kernel_rfl)) (fun _ _ _ h => h) (Or.inl ⟨by rfl, ?_⟩) hHeld ?_ ?_
   rotate_left
   ·
    rintro w' ⟨mm, rfl⟩
    go_simp; with_reducible rfl
   rotate_left
   · simp only [Act.put, List.setIfInBounds_toArray, List.set_cons_zero, List.set_cons_succ, i64_w, i32_w]; rfl
   refine purA 5 (some 22) (bA 65 63) HT_ ?_
   refine purA 6 (some 23) (bA 65 127) HT_ ?_
   refine purA 7 (some 24) (bA 65 255) HT_ ?_
   refine purA 8 (some 25) (bA 65 511) HT_ ?_
   refine take_ (i := 9) (N := some 26) (v := ?_) (a' := ?_) (bA 65 1023) rfl rfl (take_ofW HT_.out HW_.out (by kernel_rfl)) (fun _ _ _ h => h) (Or.inl ⟨by rfl, ?_⟩) hHeld ?_ ?_
   rotate_left
   ·
    rintro w' ⟨mm, rfl⟩
    go_simp; with_reducible rfl
   rotate_left
   · simp only [Act.put, List.setIfInBounds_toArray, List.set_cons_zero, List.set_cons_succ, i64_w, i32_w]; rfl
   refine purA 10 (some 27) (bA 65 2047) HT_ ?_
   refine purA 11 (some 28) (bA 65 4095) HT_ ?_
   refine purA 12 (some 29) (bA 65 8191) HT_ ?_
   refine purA 13 (some 30) (bA 65 16383) HT_ ?_
   refine purA 14 (some 31) (bA 65 32767) HT_ ?_
   refine purA 15 (some 32) (bA 65 65535) HT_ ?_
   refine take_ (i := 16) (N := some 33) (v := ?_) (a' := ?_) (bA 65 131071) rfl rfl (take_ofW HT_.out HW_.out (by kernel_rfl)) (fun _ _ _ h => h) (Or.inl ⟨by rfl, ?_⟩) hHeld ?_ ?_
   rotate_left
   ·
    rintro w' ⟨mm, rfl⟩
    go_simp; with_reducible rfl
   rotate_left
   · simp only [Act.put, List.setIfInBounds_toArray, List.set_cons_zero, List.set_cons_succ, i64_w, i32_w]; rfl
   refine purA 17 (some 34) (bA 65 262143) HT_ ?_
   refine purA 18 (some 35) (bA 65 524287) HT_ ?_
   refine purA 19 (some 36) (bA 65 1048575) HT_ ?_
   refine purA 20 (some 37) (bA 65 2097151) HT_ ?_
   refine take_ (i := 21) (N := some 38) (v := ?_) (a' := ?_) (bA 65 4194303) rfl rfl (take_ofW HT_.out HW_.out (by kernel_rfl)) (fun _ _ _ h => h) (Or.inl ⟨by rfl, ?_⟩) hHeld ?_ ?_
   rotate_left
   ·
    rintro w' ⟨mm, rfl⟩
    go_simp; with_reducible rfl
   rotate_left
   · simp only [Act.put, List.setIfInBounds_toArray, List.set_cons_zero, List.set_cons_succ, i64_w, i32_w]; rfl
   refine purA 22 (some 39) (bA 65 8388607) HT_ ?_
   refine purA 23 (some 40) (bA 65 16777215) HT_ ?_
   refine purA 24 (some 41) (bA 65 33554431) HT_ ?_
   refine offA 25 (some 42) (bA 65 67108863) HT_ ?_
   refine offA 26 (some 43) (bA 65 134217727) HT_ ?_
   refine offA 27 (some 44) (bA 65 268435455) HT_ ?_
   refine offA 28 (some 45) (bA 65 536870911) HT_ ?_
   refine offA 29 (some 46) (bA 65 1073741823) HT_ ?_
   refine offA 30 (some 47) (bA 65 2147483647) HT_ ?_
   refine offA 31 (some 48) (bA 65 4294967295) HT_ ?_
   refine offA 32 (some 49) (bA 65 8589934591) HT_ ?_
   refine offA 33 (some 50) (bA 65 17179869183) HT_ ?_
   refine offA 34 (some 51) (bA 65 34359738367) HT_ ?_
   refine offA 35 (some 52) (bA 65 68719476735) HT_ ?_
   refine purA 36 (some 53) (bA 65 137438953471) HT_ ?_
   refine purA 37 (some 54) (bA 65 274877906943) HT_ ?_
   refine offA 38 (some 55) (bA 65 549755813887) HT_ ?_
   refine offA 39 (some 56) (bA 65 1099511627775) HT_ ?_
   refine offA 40 (some 57) (bA 65 2199023255551) HT_ ?_
   refine offA 41 (some 58) (bA 65 4398046511103) HT_ ?_
   refine offA 42 (some 59) (bA 65 8796093022207) HT_ ?_
   refine offA 43 (some 60) (bA 65 17592186044415) HT_ ?_
   refine offA 44 (some 61) (bA 65 35184372088831) HT_ ?_
   refine offA 45 (some 62) (bA 65 70368744177663) HT_ ?_
   refine offA 46 (some 63) (bA 65 140737488355327) HT_ ?_
   refine offA 47 (some 64) (bA 65 281474976710655) HT_ ?_
   refine offA 48 (some 65) (bA 65 562949953421311) HT_ ?_
   refine offA 49 (some 66) (bA 65 1125899906842623) HT_ ?_
   refine purA 50 (some 67) (bA 65 2251799813685247) HT_ ?_
   refine purA 51 (some 68) (bA 65 4503599627370495) HT_ ?_
   refine offA 52 (some 69) (bA 65 9007199254740991) HT_ ?_
   refine offA 53 (some 70) (bA 65 18014398509481983) HT_ ?_
   refine offA 54 (some 71) (bA 65 36028797018963967) HT_ ?_
   refine offA 55 (some 72) (bA 65 72057594037927935) HT_ ?_
   refine offA 56 (some 73) (bA 65 144115188075855871) HT_ ?_
   refine offA 57 (some 74) (bA 65 288230376151711743) HT_ ?_
   refine offA 58 (some 75) (bA 65 576460752303423487) HT_ ?_
   refine offA 59 (some 76) (bA 65 1152921504606846975) HT_ ?_
   refine offA 60 (some 77) (bA 65 2305843009213693951) HT_ ?_
   refine offA 61 (some 78) (bA 65 4611686018427387903) HT_ ?_
   refine offA 62 (some 79) (bA 65 9223372036854775807) HT_ ?_
   refine offA 63 (some 80) (bA 65 18446744073709551615) HT_ ?_
   refine purA 64 (some 81) (bA 65 36893488147419103231) HT_ ?_
   refine done_ (done_of HT_.out (by kernel_rfl)) ?_
   cases hp; go_wp2; go_ret
   exact ⟨rfl, hHeld⟩
  rw [if_pos d1] at hp
  have z1 : (x.f1 != y.f1) = false := by simp [d1]
  have z1x : (x.f1 == y.f1) = true := by simp [d1]
  clear d1; by_cases d2 : x.f2.toList = y.f2.toList; rotate_left
  ·
   rw [if_neg d2] at hp
   have z2 : (x.f2.toList != y.f2.toList) = true := bne_iff_ne.mpr d2
   have z2x : (x.f2.toList == y.f2.toList) = false := beq_eq_false_iff_ne.mpr d2
   clear d2
   go_upto_region 6 with (fail)
   refine start_ (n := 65) (S := fun w' => Drawn0 w w') (ds := []) (bA 65 0) (by kernel_rfl) rfl rfl ⟨m + 1, rfl⟩ (fun hHeld => ?_)
   refine with_tabW belfryref11_Same.tab6 belfryref11_Same.bits6 (fun HT_ HW_ => ?_)
   generalize (w.drewN m).drew = W0 at hHeld ⊢
   refine purA 0 (some 17) (bA 65 1) HT_ ?_
   refine purA 1 (some 18) (bA 65 3) HT_ ?_
   refine purA 2 (some 19) (bA 65 7) HT_ ?_
   refine purA 3 (some 20) (bA 65 15) HT_ ?_
   refine take_ (i := 4) (N := some 21) (v := ?_) (a' := ?_) (bA 65 31) rfl rfl (take_ofW HT_.out HW_.out (by kernel_rfl)) (fun _ _ _ h => h) (Or.inl ⟨by rfl, ?_⟩) hHeld ?_ ?_
   rotate_left
   ·
    rintro w' ⟨mm, rfl⟩
    go_simp; with_reducible rfl
   rotate_left
   · simp only [Act.put, List.setIfInBounds_toArray, List.set_cons_zero, List.set_cons_succ, i64_w, i32_w]; rfl
   refine purA 5 (some 22) (bA 65 63) HT_ ?_
   refine purA 6 (some 23) (bA 65 127) HT_ ?_
   refine purA 7 (some 24) (bA 65 255) HT_ ?_
   refine purA 8 (some 25) (bA 65 511) HT_ ?_
   refine take_ (i := 9) (N := some 26) (v := ?_) (a' := ?_) (bA 65 1023) rfl rfl (take_ofW HT_.out HW_.out (by kernel_rfl)) (fun _ _ _ h => h) (Or.inl ⟨by rfl, ?_⟩) hHeld ?_ ?_
   rotate_left
   ·
    rintro w' ⟨mm, rfl⟩
    go_simp; with_reducible rfl
   rotate_left
   · simp only [Act.put, List.setIfInBounds_toArray, List.set_cons_zero, List.set_cons_succ, i64_w, i32_w]; rfl
   refine purA 10 (some 27) (bA 65 2047) HT_ ?_
   refine purA 11 (some 28) (bA 65 4095) HT_ ?_
   refine purA 12 (some 29) (bA 65 8191) HT_ ?_
   refine purA 13 (some 30) (bA 65 16383) HT_ ?_
   refine purA 14 (some 31) (bA 65 32767) HT_ ?_
   refine purA 15 (some 32) (bA 65 65535) HT_ ?_
   refine take_ (i := 16) (N := some 33) (v := ?_) (a' := ?_) (bA 65 131071) rfl rfl (take_ofW HT_.out HW_.out (by kernel_rfl)) (fun _ _ _ h => h) (Or.inl ⟨by rfl, ?_⟩) hHeld ?_ ?_
   rotate_left
   ·
    rintro w' ⟨mm, rfl⟩
    go_simp; with_reducible rfl
   rotate_left
   · simp only [Act.put, List.setIfInBounds_toArray, List.set_cons_zero, List.set_cons_succ, i64_w, i32_w]; rfl
   refine purA 17 (some 34) (bA 65 262143) HT_ ?_
   refine purA 18 (some 35) (bA 65 524287) HT_ ?_
   refine purA 19 (some 36) (bA 65 1048575) HT_ ?_
   refine purA 20 (some 37) (bA 65 2097151) HT_ ?_
   refine take_ (i := 21) (N := some 38) (v := ?_) (a' := ?_) (bA 65 4194303) rfl rfl (take_ofW HT_.out HW_.out (by kernel_rfl)) (fun _ _ _ h => h) (Or.inl ⟨by rfl, ?_⟩) hHeld ?_ ?_
   rotate_left
   ·
    rintro w' ⟨mm, rfl⟩
    go_simp; with_reducible rfl
   rotate_left
   · simp only [Act.put, List.setIfInBounds_toArray, List.set_cons_zero, List.set_cons_succ, i64_w, i32_w]; rfl
   refine purA 22 (some 39) (bA 65 8388607) HT_ ?_
   refine purA 23 (some 40) (bA 65 16777215) HT_ ?_
   refine purA 24 (some 41) (bA 65 33554431) HT_ ?_
   refine purA 25 (some 42) (bA 65 67108863) HT_ ?_
   refine purA 26 (some 43) (bA 65 134217727) HT_ ?_
   refine purA 27 (some 44) (bA 65 268435455) HT_ ?_
   refine purA 28 (some 45) (bA 65 536870911) HT_ ?_
   refine take_ (i := 29) (N := some 46) (v := ?_) (a' := ?_) (bA 65 1073741823) rfl rfl (take_ofW HT_.out HW_.out (by kernel_rfl)) (fun _ _ _ h => h) (Or.inl ⟨by rfl, ?_⟩) hHeld ?_ ?_
   rotate_left
   ·
    rintro w' ⟨mm, rfl⟩
    go_simp; with_reducible rfl
   rotate_left
   · simp only [Act.put, List.setIfInBounds_toArray, List.set_cons_zero, List.set_cons_succ, i64_w, i32_w]; rfl
   refine purA 30 (some 47) (bA 65 2147483647) HT_ ?_
   refine purA 31 (some 48) (bA 65 4294967295) HT_ ?_
   refine purA 32 (some 49) (bA 65 8589934591) HT_ ?_
   refine purA 33 (some 50) (bA 65 17179869183) HT_ ?_
   refine take_ (i := 34) (N := some 51) (v := ?_) (a' := ?_) (bA 65 34359738367) rfl rfl (take_ofW HT_.out HW_.out (by kernel_rfl)) (fun _ _ _ h => h) (Or.inl ⟨by rfl, ?_⟩) hHeld ?_ ?_
   rotate_left
   ·
    rintro w' ⟨mm, rfl⟩
    go_simp; with_reducible rfl
   rotate_left
   · simp only [Act.put, List.setIfInBounds_toArray, List.set_cons_zero, List.set_cons_succ, i64_w, i32_w]; rfl
   refine purA 35 (some 52) (bA 65 68719476735) HT_ ?_
   refine purA 36 (some 53) (bA 65 137438953471) HT_ ?_
   refine purA 37 (some 54) (bA 65 274877906943) HT_ ?_
   refine offA 38 (some 55) (bA 65 549755813887) HT_ ?_
   refine offA 39 (some 56) (bA 65 1099511627775) HT_ ?_
   refine offA 40 (some 57) (bA 65 2199023255551) HT_ ?_
   refine offA 41 (some 58) (bA 65 4398046511103) HT_ ?_
   refine offA 42 (some 59) (bA 65 8796093022207) HT_ ?_
   refine offA 43 (some 60) (bA 65 17592186044415) HT_ ?_
   refine offA 44 (some 61) (bA 65 35184372088831) HT_ ?_
   refine offA 45 (some 62) (bA 65 70368744177663) HT_ ?_
   refine offA 46 (some 63) (bA 65 140737488355327) HT_ ?_
   refine offA 47 (some 64) (bA 65 281474976710655) HT_ ?_
   refine offA 48 (some 65) (bA 65 562949953421311) HT_ ?_
   refine offA 49 (some 66) (bA 65 1125899906842623) HT_ ?_
   refine purA 50 (some 67) (bA 65 2251799813685247) HT_ ?_
   refine purA 51 (some 68) (bA 65 4503599627370495) HT_ ?_
   refine offA 52 (some 69) (bA 65 9007199254740991) HT_ ?_
   refine offA 53 (some 70) (bA 65 18014398509481983) HT_ ?_
   refine offA 54 (some 71) (bA 65 36028797018963967) HT_ ?_
   refine offA 55 (some 72) (bA 65 72057594037927935) HT_ ?_
   refine offA 56 (some 73) (bA 65 144115188075855871) HT_ ?_
   refine offA 57 (some 74) (bA 65 288230376151711743) HT_ ?_
   refine offA 58 (some 75) (bA 65 576460752303423487) HT_ ?_
   refine offA 59 (some 76) (bA 65 1152921504606846975) HT_ ?_
   refine offA 60 (some 77) (bA 65 2305843009213693951) HT_ ?_
   refine offA 61 (some 78) (bA 65 4611686018427387903) HT_ ?_
   refine offA 62 (some 79) (bA 65 9223372036854775807) HT_ ?_
   refine offA 63 (some 80) (bA 65 18446744073709551615) HT_ ?_
   refine purA 64 (some 81) (bA 65 36893488147419103231) HT_ ?_
   refine done_ (done_of HT_.out (by kernel_rfl)) ?_
   cases hp; go_wp2; go_ret
   exact ⟨rfl, hHeld⟩
  rw [if_pos d2] at hp
  have z2 : (x.f2.toList != y.f2.toList) = false := by simp [d2]
  have z2x : (x.f2.toList == y.f2.toList) = true := by simp [d2]
  clear d2
  obtain ⟨b3, hb3, hp⟩ := Option.bind_eq_some_iff.mp hp
  have HSM := Aside0.mk hb3; clear hb3
  cases b3 with
  | true =>
   rw [if_pos rfl] at hp
   obtain ⟨b4, hb4, hp⟩ := Option.bind_eq_some_iff.mp hp
   have HTX := Aside0.mk hb4; clear hb4
   cases b4 with
   | true =>
    rw [if_pos rfl] at hp
    go_upto_region 6 with (fail)
    refine start_ (n := 65) (S := fun w' => Drawn0 w w') (ds := []) (bA 65 0) (by kernel_rfl) rfl rfl ⟨m + 1, rfl⟩ (fun hHeld => ?_)
    refine with_tabW belfryref11_Same.tab6 belfryref11_Same.bits6 (fun HT_ HW_ => ?_)
    generalize (w.drewN m).drew = W0 at hHeld ⊢
    refine purA 0 (some 17) (bA 65 1) HT_ ?_
    refine purA 1 (some 18) (bA 65 3) HT_ ?_
    refine purA 2 (some 19) (bA 65 7) HT_ ?_
    refine purA 3 (some 20) (bA 65 15) HT_ ?_
    refine take_ (i := 4) (N := some 21) (v := ?_) (a' := ?_) (bA 65 31) rfl rfl (take_ofW HT_.out HW_.out (by kernel_rfl)) (fun _ _ _ h => h) (Or.inl ⟨by rfl, ?_⟩) hHeld ?_ ?_
    rotate_left
    ·
     rintro w' ⟨mm, rfl⟩
     go_simp; with_reducible rfl
    rotate_left
    · simp only [Act.put, List.setIfInBounds_toArray, List.set_cons_zero, List.set_cons_succ, i64_w, i32_w]; rfl
    refine purA 5 (some 22) (bA 65 63) HT_ ?_
    refine purA 6 (some 23) (bA 65 127) HT_ ?_
    refine purA 7 (some 24) (bA 65 255) HT_ ?_
    refine purA 8 (some 25) (bA 65 511) HT_ ?_
    refine take_ (i := 9) (N := some 26) (v := ?_) (a' := ?_) (bA 65 1023) rfl rfl (take_ofW HT_.out HW_.out (by kernel_rfl)) (fun _ _ _ h => h) (Or.inl ⟨by rfl, ?_⟩) hHeld ?_ ?_
    rotate_left
    ·
     rintro w' ⟨mm, rfl⟩
     go_simp; with_reducible rfl
    rotate_left
    · simp only [Act.put, List.setIfInBounds_toArray, List.set_cons_zero, List.set_cons_succ, i64_w, i32_w]; rfl
    refine purA 10 (some 27) (bA 65 2047) HT_ ?_
    refine purA 11 (some 28) (bA 65 4095) HT_ ?_
    refine purA 12 (some 29) (bA 65 8191) HT_ ?_
    refine purA 13 (some 30) (bA 65 16383) HT_ ?_
    refine purA 14 (some 31) (bA 65 32767) HT_ ?_
    refine purA 15 (some 32) (bA 65 65535) HT_ ?_
    refine take_ (i := 16) (N := some 33) (v := ?_) (a' := ?_) (bA 65 131071) rfl rfl (take_ofW HT_.out HW_.out (by kernel_rfl)) (fun _ _ _ h => h) (Or.inl ⟨by rfl, ?_⟩) hHeld ?_ ?_
    rotate_left
    ·
     rintro w' ⟨mm, rfl⟩
     go_simp; with_reducible rfl
    rotate_left
    · simp only [Act.put, List.setIfInBounds_toArray, List.set_cons_zero, List.set_cons_succ, i64_w, i32_w]; rfl
    refine purA 17 (some 34) (bA 65 262143) HT_ ?_
    refine purA 18 (some 35) (bA 65 524287) HT_ ?_
    refine purA 19 (some 36) (bA 65 1048575) HT_ ?_
    refine purA 20 (some 37) (bA 65 2097151) HT_ ?_
    refine take_ (i := 21) (N := some 38) (v := ?_) (a' := ?_) (bA 65 4194303) rfl rfl (take_ofW HT_.out HW_.out (by kernel_rfl)) (fun _ _ _ h => h) (Or.inl ⟨by rfl, ?_⟩) hHeld ?_ ?_
    rotate_left
    ·
     rintro w' ⟨mm, rfl⟩
     go_simp; with_reducible rfl
    rotate_left
    · simp only [Act.put, List.setIfInBounds_toArray, List.set_cons_zero, List.set_cons_succ, i64_w, i32_w]; rfl
    refine purA 22 (some 39) (bA 65 8388607) HT_ ?_
    refine purA 23 (some 40) (bA 65 16777215) HT_ ?_
    refine purA 24 (some 41) (bA 65 33554431) HT_ ?_
    refine purA 25 (some 42) (bA 65 67108863) HT_ ?_
    refine purA 26 (some 43) (bA 65 134217727) HT_ ?_
    refine purA 27 (some 44) (bA 65 268435455) HT_ ?_
    refine purA 28 (some 45) (bA 65 536870911) HT_ ?_
    refine take_ (i := 29) (N := some 46) (v := ?_) (a' := ?_) (bA 65 1073741823) rfl rfl (take_ofW HT_.out HW_.out (by kernel_rfl)) (fun _ _ _ h => h) (Or.inl ⟨by rfl, ?_⟩) hHeld ?_ ?_
    rotate_left
    ·
     rintro w' ⟨mm, rfl⟩
     go_simp; with_reducible rfl
    rotate_left
    · simp only [Act.put, List.setIfInBounds_toArray, List.set_cons_zero, List.set_cons_succ, i64_w, i32_w]; rfl
    refine purA 30 (some 47) (bA 65 2147483647) HT_ ?_
    refine purA 31 (some 48) (bA 65 4294967295) HT_ ?_
    refine purA 32 (some 49) (bA 65 8589934591) HT_ ?_
    refine purA 33 (some 50) (bA 65 17179869183) HT_ ?_
    refine take_ (i := 34) (N := some 51) (v := ?_) (a' := ?_) (bA 65 34359738367) rfl rfl (take_ofW HT_.out HW_.out (by kernel_rfl)) (fun _ _ _ h => h) (Or.inl ⟨by rfl, ?_⟩) hHeld ?_ ?_
    rotate_left
    ·
     rintro w' ⟨mm, rfl⟩
     go_simp; with_reducible rfl
    rotate_left
    · simp only [Act.put, List.setIfInBounds_toArray, List.set_cons_zero, List.set_cons_succ, i64_w, i32_w]; rfl
    refine purA 35 (some 52) (bA 65 68719476735) HT_ ?_
    refine purA 36 (some 53) (bA 65 137438953471) HT_ ?_
    refine purA 37 (some 54) (bA 65 274877906943) HT_ ?_
    refine purA 38 (some 55) (bA 65 549755813887) HT_ ?_
    refine purA 39 (some 56) (bA 65 1099511627775) HT_ ?_
    refine purA 40 (some 57) (bA 65 2199023255551) HT_ ?_
    refine purA 41 (some 58) (bA 65 4398046511103) HT_ ?_
    refine take_ (i := 42) (N := some 59) (v := ?_) (a' := ?_) (bA 65 8796093022207) rfl rfl (take_ofW HT_.out HW_.out (by kernel_rfl)) (fun _ _ _ h => h) (Or.inl ⟨by rfl, ?_⟩) hHeld ?_ ?_
    rotate_left
    ·
     rintro w' ⟨mm, rfl⟩
     go_simp; with_reducible rfl
    rotate_left
    · simp only [Act.put, List.setIfInBounds_toArray, List.set_cons_zero, List.set_cons_succ, i64_w, i32_w]; rfl
    refine purA 43 (some 60) (bA 65 17592186044415) HT_ ?_
    refine purA 44 (some 61) (bA 65 35184372088831) HT_ ?_
    refine purA 45 (some 62) (bA 65 70368744177663) HT_ ?_
    refine purA 46 (some 63) (bA 65 140737488355327) HT_ ?_
    refine take_ (i := 47) (N := some 64) (v := ?_) (a' := ?_) (bA 65 281474976710655) rfl rfl (take_ofW HT_.out HW_.out (by kernel_rfl)) (fun _ _ _ h => h) (Or.inl ⟨by rfl, ?_⟩) hHeld ?_ ?_
    rotate_left
    ·
     rintro w' ⟨mm, rfl⟩
     go_simp; with_reducible rfl
    rotate_left
    · simp only [Act.put, List.setIfInBounds_toArray, List.set_cons_zero, List.set_cons_succ, i64_w, i32_w]; rfl
    refine one_ (i := 48) (N := some 65) (bA 65 562949953421311) rfl rfl (one_of HT_.out (by kernel_rfl)) (by decide) (fun K hK => ?_)
    refine goes_ Tryz.func33 (by kernel_rfl) rfl #[.slice A3 x.f3.length c3, .slice B3 y.f3.length d3] (by rfl) rfl rfl (by (try simp only [List.map_toArray, List.map_cons, List.map_nil]); first | done | rfl) ?_
    refine (belfryref04_SameMatch.calls k A3 c3 x.f3 B3 d3 y.f3 true _ (C_drawn HG3.out hHeld) l3 (C_drawn HK3.out hHeld) n3 HSM.out).mono ?_
    rintro e w2 ⟨rfl, hd2⟩
    refine ⟨_, rfl, ?_⟩
    refine hK.out _ _ (drawn_trans hHeld hd2) (fun hHeld => ?_)
    clear hK K hd2
    refine norm_ (a' := ?_) ?_ ?_
    rotate_left
    ·
     show Act.put _ (some 65) _ = _
     simp only [Act.put, List.setIfInBounds_toArray, List.set_cons_zero, List.set_cons_succ, i64_w, i32_w]; rfl
    refine purA 49 (some 66) (bA 65 1125899906842623) HT_ ?_
    refine purA 50 (some 67) (bA 65 2251799813685247) HT_ ?_
    refine purA 51 (some 68) (bA 65 4503599627370495) HT_ ?_
    refine purA 52 (some 69) (bA 65 9007199254740991) HT_ ?_
    refine purA 53 (some 70) (bA 65 18014398509481983) HT_ ?_
    refine purA 54 (some 71) (bA 65 36028797018963967) HT_ ?_
    refine purA 55 (some 72) (bA 65 72057594037927935) HT_ ?_
    refine take_ (i := 56) (N := some 73) (v := ?_) (a' := ?_) (bA 65 144115188075855871) rfl rfl (take_ofW HT_.out HW_.out (by kernel_rfl)) (fun _ _ _ h => h) (Or.inl ⟨by rfl, ?_⟩) hHeld ?_ ?_
    rotate_left
    ·
     rintro w' ⟨mm, rfl⟩
     go_simp; with_reducible rfl
    rotate_left
    · simp only [Act.put, List.setIfInBounds_toArray, List.set_cons_zero, List.set_cons_succ, i64_w, i32_w]; rfl
    refine purA 57 (some 74) (bA 65 288230376151711743) HT_ ?_
    refine purA 58 (some 75) (bA 65 576460752303423487) HT_ ?_
    refine purA 59 (some 76) (bA 65 1152921504606846975) HT_ ?_
    refine purA 60 (some 77) (bA 65 2305843009213693951) HT_ ?_
    refine take_ (i := 61) (N := some 78) (v := ?_) (a' := ?_) (bA 65 4611686018427387903) rfl rfl (take_ofW HT_.out HW_.out (by kernel_rfl)) (fun _ _ _ h => h) (Or.inl ⟨by rfl, ?_⟩) hHeld ?_ ?_
    rotate_left
    ·
     rintro w' ⟨mm, rfl⟩
     go_simp; with_reducible rfl
    rotate_left
    · simp only [Act.put, List.setIfInBounds_toArray, List.set_cons_zero, List.set_cons_succ, i64_w, i32_w]; rfl
    refine one_ (i := 62) (N := some 79) (bA 65 9223372036854775807) rfl rfl (one_of HT_.out (by kernel_rfl)) (by decide) (fun K hK => ?_)
    refine goes_ Tryz.func34 (by kernel_rfl) rfl #[.slice A4 x.f4.length c4, .slice B4 y.f4.length d4] (by rfl) rfl rfl (by (try simp only [List.map_toArray, List.map_cons, List.map_nil]); first | done | rfl) ?_
    refine (belfryref11_texts.calls k A4 c4 x.f4 B4 d4 y.f4 true _ (C_drawn HG4.out hHeld) l4 (C_drawn HK4.out hHeld) n4 HTX.out).mono ?_
    rintro e w2 ⟨rfl, hd2⟩
    refine ⟨_, rfl, ?_⟩
    refine hK.out _ _ (drawn_trans hHeld hd2) (fun hHeld => ?_)
    clear hK K hd2
    refine norm_ (a' := ?_) ?_ ?_
    rotate_left
    ·
     show Act.put _ (some 79) _ = _
     simp only [Act.put, List.setIfInBounds_toArray, List.set_cons_zero, List.set_cons_succ, i64_w, i32_w]; rfl
    refine purA 63 (some 80) (bA 65 18446744073709551615) HT_ ?_
    refine purA 64 (some 81) (bA 65 36893488147419103231) HT_ ?_
    refine done_ (done_of HT_.out (by kernel_rfl)) ?_
    have HP2 := Aside0.mk hp; clear hp; go_wp2
    go_roundw
    case rel => exact ⟨i + 1, hlt, by go_num, hHeld, HP2⟩
    case measure => simp [intOf]; omega
   | false =>
    rw [if_neg (by decide)] at hp
    go_upto_region 6 with (fail)
    refine start_ (n := 65) (S := fun w' => Drawn0 w w') (ds := []) (bA 65 0) (by kernel_rfl) rfl rfl ⟨m + 1, rfl⟩ (fun hHeld => ?_)
    refine with_tabW belfryref11_Same.tab6 belfryref11_Same.bits6 (fun HT_ HW_ => ?_)
    generalize (w.drewN m).drew = W0 at hHeld ⊢
    refine purA 0 (some 17) (bA 65 1) HT_ ?_
    refine purA 1 (some 18) (bA 65 3) HT_ ?_
    refine purA 2 (some 19) (bA 65 7) HT_ ?_
    refine purA 3 (some 20) (bA 65 15) HT_ ?_
    refine take_ (i := 4) (N := some 21) (v := ?_) (a' := ?_) (bA 65 31) rfl rfl (take_ofW HT_.out HW_.out (by kernel_rfl)) (fun _ _ _ h => h) (Or.inl ⟨by rfl, ?_⟩) hHeld ?_ ?_
    rotate_left
    ·
     rintro w' ⟨mm, rfl⟩
     go_simp; with_reducible rfl
    rotate_left
    · simp only [Act.put, List.setIfInBounds_toArray, List.set_cons_zero, List.set_cons_succ, i64_w, i32_w]; rfl
    refine purA 5 (some 22) (bA 65 63) HT_ ?_
    refine purA 6 (some 23) (bA 65 127) HT_ ?_
    refine purA 7 (some 24) (bA 65 255) HT_ ?_
    refine purA 8 (some 25) (bA 65 511) HT_ ?_
    refine take_ (i := 9) (N := some 26) (v := ?_) (a' := ?_) (bA 65 1023) rfl rfl (take_ofW HT_.out HW_.out (by kernel_rfl)) (fun _ _ _ h => h) (Or.inl ⟨by rfl, ?_⟩) hHeld ?_ ?_
    rotate_left
    ·
     rintro w' ⟨mm, rfl⟩
     go_simp; with_reducible rfl
    rotate_left
    · simp only [Act.put, List.setIfInBounds_toArray, List.set_cons_zero, List.set_cons_succ, i64_w, i32_w]; rfl
    refine purA 10 (some 27) (bA 65 2047) HT_ ?_
    refine purA 11 (some 28) (bA 65 4095) HT_ ?_
    refine purA 12 (some 29) (bA 65 8191) HT_ ?_
    refine purA 13 (some 30) (bA 65 16383) HT_ ?_
    refine purA 14 (some 31) (bA 65 32767) HT_ ?_
    refine purA 15 (some 32) (bA 65 65535) HT_ ?_
    refine take_ (i := 16) (N := some 33) (v := ?_) (a' := ?_) (bA 65 131071) rfl rfl (take_ofW HT_.out HW_.out (by kernel_rfl)) (fun _ _ _ h => h) (Or.inl ⟨by rfl, ?_⟩) hHeld ?_ ?_
    rotate_left
    ·
     rintro w' ⟨mm, rfl⟩
     go_simp; with_reducible rfl
    rotate_left
    · simp only [Act.put, List.setIfInBounds_toArray, List.set_cons_zero, List.set_cons_succ, i64_w, i32_w]; rfl
    refine purA 17 (some 34) (bA 65 262143) HT_ ?_
    refine purA 18 (some 35) (bA 65 524287) HT_ ?_
    refine purA 19 (some 36) (bA 65 1048575) HT_ ?_
    refine purA 20 (some 37) (bA 65 2097151) HT_ ?_
    refine take_ (i := 21) (N := some 38) (v := ?_) (a' := ?_) (bA 65 4194303) rfl rfl (take_ofW HT_.out HW_.out (by kernel_rfl)) (fun _ _ _ h => h) (Or.inl ⟨by rfl, ?_⟩) hHeld ?_ ?_
    rotate_left
    ·
     rintro w' ⟨mm, rfl⟩
     go_simp; with_reducible rfl
    rotate_left
    · simp only [Act.put, List.setIfInBounds_toArray, List.set_cons_zero, List.set_cons_succ, i64_w, i32_w]; rfl
    refine purA 22 (some 39) (bA 65 8388607) HT_ ?_
    refine purA 23 (some 40) (bA 65 16777215) HT_ ?_
    refine purA 24 (some 41) (bA 65 33554431) HT_ ?_
    refine purA 25 (some 42) (bA 65 67108863) HT_ ?_
    refine purA 26 (some 43) (bA 65 134217727) HT_ ?_
    refine purA 27 (some 44) (bA 65 268435455) HT_ ?_
    refine purA 28 (some 45) (bA 65 536870911) HT_ ?_
    refine take_ (i := 29) (N := some 46) (v := ?_) (a' := ?_) (bA 65 1073741823) rfl rfl (take_ofW HT_.out HW_.out (by kernel_rfl)) (fun _ _ _ h => h) (Or.inl ⟨by rfl, ?_⟩) hHeld ?_ ?_
    rotate_left
    ·
     rintro w' ⟨mm, rfl⟩
     go_simp; with_reducible rfl
    rotate_left
    · simp only [Act.put, List.setIfInBounds_toArray, List.set_cons_zero, List.set_cons_succ, i64_w, i32_w]; rfl
    refine purA 30 (some 47) (bA 65 2147483647) HT_ ?_
    refine purA 31 (some 48) (bA 65 4294967295) HT_ ?_
    refine purA 32 (some 49) (bA 65 8589934591) HT_ ?_
    refine purA 33 (some 50) (bA 65 17179869183) HT_ ?_
    refine take_ (i := 34) (N := some 51) (v := ?_) (a' := ?_) (bA 65 34359738367) rfl rfl (take_ofW HT_.out HW_.out (by kernel_rfl)) (fun _ _ _ h => h) (Or.inl ⟨by rfl, ?_⟩) hHeld ?_ ?_
    rotate_left
    ·
     rintro w' ⟨mm, rfl⟩
     go_simp; with_reducible rfl
    rotate_left
    · simp only [Act.put, List.setIfInBounds_toArray, List.set_cons_zero, List.set_cons_succ, i64_w, i32_w]; rfl
    refine purA 35 (some 52) (bA 65 68719476735) HT_ ?_
    refine purA 36 (some 53) (bA 65 137438953471) HT_ ?_
    refine purA 37 (some 54) (bA 65 274877906943) HT_ ?_
    refine purA 38 (some 55) (bA 65 549755813887) HT_ ?_
    refine purA 39 (some 56) (bA 65 1099511627775) HT_ ?_
    refine purA 40 (some 57) (bA 65 2199023255551) HT_ ?_
    refine purA 41 (some 58) (bA 65 4398046511103) HT_ ?_
    refine take_ (i := 42) (N := some 59) (v := ?_) (a' := ?_) (bA 65 8796093022207) rfl rfl (take_ofW HT_.out HW_.out (by kernel_rfl)) (fun _ _ _ h => h) (Or.inl ⟨by rfl, ?_⟩) hHeld ?_ ?_
    rotate_left
    ·
     rintro w' ⟨mm, rfl⟩
     go_simp; with_reducible rfl
    rotate_left
    · simp only [Act.put, List.setIfInBounds_toArray, List.set_cons_zero, List.set_cons_succ, i64_w, i32_w]; rfl
    refine purA 43 (some 60) (bA 65 17592186044415) HT_ ?_
    refine purA 44 (some 61) (bA 65 35184372088831) HT_ ?_
    refine purA 45 (some 62) (bA 65 70368744177663) HT_ ?_
    refine purA 46 (some 63) (bA 65 140737488355327) HT_ ?_
    refine take_ (i := 47) (N := some 64) (v := ?_) (a' := ?_) (bA 65 281474976710655) rfl rfl (take_ofW HT_.out HW_.out (by kernel_rfl)) (fun _ _ _ h => h) (Or.inl ⟨by rfl, ?_⟩) hHeld ?_ ?_
    rotate_left
    ·
     rintro w' ⟨mm, rfl⟩
     go_simp; with_reducible rfl
    rotate_left
    · simp only [Act.put, List.setIfInBounds_toArray, List.set_cons_zero, List.set_cons_succ, i64_w, i32_w]; rfl
    refine one_ (i := 48) (N := some 65) (bA 65 562949953421311) rfl rfl (one_of HT_.out (by kernel_rfl)) (by decide) (fun K hK => ?_)
    refine goes_ Tryz.func33 (by kernel_rfl) rfl #[.slice A3 x.f3.length c3, .slice B3 y.f3.length d3] (by rfl) rfl rfl (by (try simp only [List.map_toArray, List.map_cons, List.map_nil]); first | done | rfl) ?_
    refine (belfryref04_SameMatch.calls k A3 c3 x.f3 B3 d3 y.f3 true _ (C_drawn HG3.out hHeld) l3 (C_drawn HK3.out hHeld) n3 HSM.out).mono ?_
    rintro e w2 ⟨rfl, hd2⟩
    refine ⟨_, rfl, ?_⟩
    refine hK.out _ _ (drawn_trans hHeld hd2) (fun hHeld => ?_)
    clear hK K hd2
    refine norm_ (a' := ?_) ?_ ?_
    rotate_left
    ·
     show Act.put _ (some 65) _ = _
     simp only [Act.put, List.setIfInBounds_toArray, List.set_cons_zero, List.set_cons_succ, i64_w, i32_w]; rfl
    refine purA 49 (some 66) (bA 65 1125899906842623) HT_ ?_
    refine purA 50 (some 67) (bA 65 2251799813685247) HT_ ?_
    refine purA 51 (some 68) (bA 65 4503599627370495) HT_ ?_
    refine purA 52 (some 69) (bA 65 9007199254740991) HT_ ?_
    refine purA 53 (some 70) (bA 65 18014398509481983) HT_ ?_
    refine purA 54 (some 71) (bA 65 36028797018963967) HT_ ?_
    refine purA 55 (some 72) (bA 65 72057594037927935) HT_ ?_
    refine take_ (i := 56) (N := some 73) (v := ?_) (a' := ?_) (bA 65 144115188075855871) rfl rfl (take_ofW HT_.out HW_.out (by kernel_rfl)) (fun _ _ _ h => h) (Or.inl ⟨by rfl, ?_⟩) hHeld ?_ ?_
    rotate_left
    ·
     rintro w' ⟨mm, rfl⟩
     go_simp; with_reducible rfl
    rotate_left
    · simp only [Act.put, List.setIfInBounds_toArray, List.set_cons_zero, List.set_cons_succ, i64_w, i32_w]; rfl
    refine purA 57 (some 74) (bA 65 288230376151711743) HT_ ?_
    refine purA 58 (some 75) (bA 65 576460752303423487) HT_ ?_
    refine purA 59 (some 76) (bA 65 1152921504606846975) HT_ ?_
    refine purA 60 (some 77) (bA 65 2305843009213693951) HT_ ?_
    refine take_ (i := 61) (N := some 78) (v := ?_) (a' := ?_) (bA 65 4611686018427387903) rfl rfl (take_ofW HT_.out HW_.out (by kernel_rfl)) (fun _ _ _ h => h) (Or.inl ⟨by rfl, ?_⟩) hHeld ?_ ?_
    rotate_left
    ·
     rintro w' ⟨mm, rfl⟩
     go_simp; with_reducible rfl
    rotate_left
    · simp only [Act.put, List.setIfInBounds_toArray, List.set_cons_zero, List.set_cons_succ, i64_w, i32_w]; rfl
    refine one_ (i := 62) (N := some 79) (bA 65 9223372036854775807) rfl rfl (one_of HT_.out (by kernel_rfl)) (by decide) (fun K hK => ?_)
    refine goes_ Tryz.func34 (by kernel_rfl) rfl #[.slice A4 x.f4.length c4, .slice B4 y.f4.length d4] (by rfl) rfl rfl (by (try simp only [List.map_toArray, List.map_cons, List.map_nil]); first | done | rfl) ?_
    refine (belfryref11_texts.calls k A4 c4 x.f4 B4 d4 y.f4 false _ (C_drawn HG4.out hHeld) l4 (C_drawn HK4.out hHeld) n4 HTX.out).mono ?_
    rintro e w2 ⟨rfl, hd2⟩
    refine ⟨_, rfl, ?_⟩
    refine hK.out _ _ (drawn_trans hHeld hd2) (fun hHeld => ?_)
    clear hK K hd2
    refine norm_ (a' := ?_) ?_ ?_
    rotate_left
    ·
     show Act.put _ (some 79) _ = _
     simp only [Act.put, List.setIfInBounds_toArray, List.set_cons_zero, List.set_cons_succ, i64_w, i32_w]; rfl
    refine purA 63 (some 80) (bA 65 18446744073709551615) HT_ ?_
    refine purA 64 (some 81) (bA 65 36893488147419103231) HT_ ?_
    refine done_ (done_of HT_.out (by kernel_rfl)) ?_
    cases hp; go_wp2; go_ret
    exact ⟨rfl, hHeld⟩
  | false =>
   rw [if_neg (by decide)] at hp
   go_upto_region 6 with (fail)
   refine start_ (n := 65) (S := fun w' => Drawn0 w w') (ds := []) (bA 65 0) (by kernel_rfl) rfl rfl ⟨m + 1, rfl⟩ (fun hHeld => ?_)
   refine with_tabW belfryref11_Same.tab6 belfryref11_Same.bits6 (fun HT_ HW_ => ?_)
   generalize (w.drewN m).drew = W0 at hHeld ⊢
   refine purA 0 (some 17) (bA 65 1) HT_ ?_
   refine purA 1 (some 18) (bA 65 3) HT_ ?_
   refine purA 2 (some 19) (bA 65 7) HT_ ?_
   refine purA 3 (some 20) (bA 65 15) HT_ ?_
   refine take_ (i := 4) (N := some 21) (v := ?_) (a' := ?_) (bA 65 31) rfl rfl (take_ofW HT_.out HW_.out (by kernel_rfl)) (fun _ _ _ h => h) (Or.inl ⟨by rfl, ?_⟩) hHeld ?_ ?_
   rotate_left
   ·
    rintro w' ⟨mm, rfl⟩
    go_simp; with_reducible rfl
   rotate_left
   · simp only [Act.put, List.setIfInBounds_toArray, List.set_cons_zero, List.set_cons_succ, i64_w, i32_w]; rfl
   refine purA 5 (some 22) (bA 65 63) HT_ ?_
   refine purA 6 (some 23) (bA 65 127) HT_ ?_
   refine purA 7 (some 24) (bA 65 255) HT_ ?_
   refine purA 8 (some 25) (bA 65 511) HT_ ?_
   refine take_ (i := 9) (N := some 26) (v := ?_) (a' := ?_) (bA 65 1023) rfl rfl (take_ofW HT_.out HW_.out (by kernel_rfl)) (fun _ _ _ h => h) (Or.inl ⟨by rfl, ?_⟩) hHeld ?_ ?_
   rotate_left
   ·
    rintro w' ⟨mm, rfl⟩
    go_simp; with_reducible rfl
   rotate_left
   · simp only [Act.put, List.setIfInBounds_toArray, List.set_cons_zero, List.set_cons_succ, i64_w, i32_w]; rfl
   refine purA 10 (some 27) (bA 65 2047) HT_ ?_
   refine purA 11 (some 28) (bA 65 4095) HT_ ?_
   refine purA 12 (some 29) (bA 65 8191) HT_ ?_
   refine purA 13 (some 30) (bA 65 16383) HT_ ?_
   refine purA 14 (some 31) (bA 65 32767) HT_ ?_
   refine purA 15 (some 32) (bA 65 65535) HT_ ?_
   refine take_ (i := 16) (N := some 33) (v := ?_) (a' := ?_) (bA 65 131071) rfl rfl (take_ofW HT_.out HW_.out (by kernel_rfl)) (fun _ _ _ h => h) (Or.inl ⟨by rfl, ?_⟩) hHeld ?_ ?_
   rotate_left
   ·
    rintro w' ⟨mm, rfl⟩
    go_simp; with_reducible rfl
   rotate_left
   · simp only [Act.put, List.setIfInBounds_toArray, List.set_cons_zero, List.set_cons_succ, i64_w, i32_w]; rfl
   refine purA 17 (some 34) (bA 65 262143) HT_ ?_
   refine purA 18 (some 35) (bA 65 524287) HT_ ?_
   refine purA 19 (some 36) (bA 65 1048575) HT_ ?_
   refine purA 20 (some 37) (bA 65 2097151) HT_ ?_
   refine take_ (i := 21) (N := some 38) (v := ?_) (a' := ?_) (bA 65 4194303) rfl rfl (take_ofW HT_.out HW_.out (by kernel_rfl)) (fun _ _ _ h => h) (Or.inl ⟨by rfl, ?_⟩) hHeld ?_ ?_
   rotate_left
   ·
    rintro w' ⟨mm, rfl⟩
    go_simp; with_reducible rfl
   rotate_left
   · simp only [Act.put, List.setIfInBounds_toArray, List.set_cons_zero, List.set_cons_succ, i64_w, i32_w]; rfl
   refine purA 22 (some 39) (bA 65 8388607) HT_ ?_
   refine purA 23 (some 40) (bA 65 16777215) HT_ ?_
   refine purA 24 (some 41) (bA 65 33554431) HT_ ?_
   refine purA 25 (some 42) (bA 65 67108863) HT_ ?_
   refine purA 26 (some 43) (bA 65 134217727) HT_ ?_
   refine purA 27 (some 44) (bA 65 268435455) HT_ ?_
   refine purA 28 (some 45) (bA 65 536870911) HT_ ?_
   refine take_ (i := 29) (N := some 46) (v := ?_) (a' := ?_) (bA 65 1073741823) rfl rfl (take_ofW HT_.out HW_.out (by kernel_rfl)) (fun _ _ _ h => h) (Or.inl ⟨by rfl, ?_⟩) hHeld ?_ ?_
   rotate_left
   ·
    rintro w' ⟨mm, rfl⟩
    go_simp; with_reducible rfl
   rotate_left
   · simp only [Act.put, List.setIfInBounds_toArray, List.set_cons_zero, List.set_cons_succ, i64_w, i32_w]; rfl
   refine purA 30 (some 47) (bA 65 2147483647) HT_ ?_
   refine purA 31 (some 48) (bA 65 4294967295) HT_ ?_
   refine purA 32 (some 49) (bA 65 8589934591) HT_ ?_
   refine purA 33 (some 50) (bA 65 17179869183) HT_ ?_
   refine take_ (i := 34) (N := some 51) (v := ?_) (a' := ?_) (bA 65 34359738367) rfl rfl (take_ofW HT_.out HW_.out (by kernel_rfl)) (fun _ _ _ h => h) (Or.inl ⟨by rfl, ?_⟩) hHeld ?_ ?_
   rotate_left
   ·
    rintro w' ⟨mm, rfl⟩
    go_simp; with_reducible rfl
   rotate_left
   · simp only [Act.put, List.setIfInBounds_toArray, List.set_cons_zero, List.set_cons_succ, i64_w, i32_w]; rfl
   refine purA 35 (some 52) (bA 65 68719476735) HT_ ?_
   refine purA 36 (some 53) (bA 65 137438953471) HT_ ?_
   refine purA 37 (some 54) (bA 65 274877906943) HT_ ?_
   refine purA 38 (some 55) (bA 65 549755813887) HT_ ?_
   refine purA 39 (some 56) (bA 65 1099511627775) HT_ ?_
   refine purA 40 (some 57) (bA 65 2199023255551) HT_ ?_
   refine purA 41 (some 58) (bA 65 4398046511103) HT_ ?_
   refine take_ (i := 42) (N := some 59) (v := ?_) (a' := ?_) (bA 65 8796093022207) rfl rfl (take_ofW HT_.out HW_.out (by kernel_rfl)) (fun _ _ _ h => h) (Or.inl ⟨by rfl, ?_⟩) hHeld ?_ ?_
   rotate_left
   ·
    rintro w' ⟨mm, rfl⟩
    go_simp; with_reducible rfl
   rotate_left
   · simp only [Act.put, List.setIfInBounds_toArray, List.set_cons_zero, List.set_cons_succ, i64_w, i32_w]; rfl
   refine purA 43 (some 60) (bA 65 17592186044415) HT_ ?_
   refine purA 44 (some 61) (bA 65 35184372088831) HT_ ?_
   refine purA 45 (some 62) (bA 65 70368744177663) HT_ ?_
   refine purA 46 (some 63) (bA 65 140737488355327) HT_ ?_
   refine take_ (i := 47) (N := some 64) (v := ?_) (a' := ?_) (bA 65 281474976710655) rfl rfl (take_ofW HT_.out HW_.out (by kernel_rfl)) (fun _ _ _ h => h) (Or.inl ⟨by rfl, ?_⟩) hHeld ?_ ?_
   rotate_left
   ·
    rintro w' ⟨mm, rfl⟩
    go_simp; with_reducible rfl
   rotate_left
   · simp only [Act.put, List.setIfInBounds_toArray, List.set_cons_zero, List.set_cons_succ, i64_w, i32_w]; rfl
   refine one_ (i := 48) (N := some 65) (bA 65 562949953421311) rfl rfl (one_of HT_.out (by kernel_rfl)) (by decide) (fun K hK => ?_)
   refine goes_ Tryz.func33 (by kernel_rfl) rfl #[.slice A3 x.f3.length c3, .slice B3 y.f3.length d3] (by rfl) rfl rfl (by (try simp only [List.map_toArray, List.map_cons, List.map_nil]); first | done | rfl) ?_
   refine (belfryref04_SameMatch.calls k A3 c3 x.f3 B3 d3 y.f3 false _ (C_drawn HG3.out hHeld) l3 (C_drawn HK3.out hHeld) n3 HSM.out).mono ?_
   rintro e w2 ⟨rfl, hd2⟩
   refine ⟨_, rfl, ?_⟩
   refine hK.out _ _ (drawn_trans hHeld hd2) (fun hHeld => ?_)
   clear hK K hd2
   refine norm_ (a' := ?_) ?_ ?_
   rotate_left
   ·
    show Act.put _ (some 65) _ = _
    simp only [Act.put, List.setIfInBounds_toArray, List.set_cons_zero, List.set_cons_succ, i64_w, i32_w]; rfl
   refine purA 49 (some 66) (bA 65 1125899906842623) HT_ ?_
   refine purA 50 (some 67) (bA 65 2251799813685247) HT_ ?_
   refine purA 51 (some 68) (bA 65 4503599627370495) HT_ ?_
   refine offA 52 (some 69) (bA 65 9007199254740991) HT_ ?_
   refine offA 53 (some 70) (bA 65 18014398509481983) HT_ ?_
   refine offA 54 (some 71) (bA 65 36028797018963967) HT_ ?_
   refine offA 55 (some 72) (bA 65 72057594037927935) HT_ ?_
   refine offA 56 (some 73) (bA 65 144115188075855871) HT_ ?_
   refine offA 57 (some 74) (bA 65 288230376151711743) HT_ ?_
   refine offA 58 (some 75) (bA 65 576460752303423487) HT_ ?_
   refine offA 59 (some 76) (bA 65 1152921504606846975) HT_ ?_
   refine offA 60 (some 77) (bA 65 2305843009213693951) HT_ ?_
   refine offA 61 (some 78) (bA 65 4611686018427387903) HT_ ?_
   refine offA 62 (some 79) (bA 65 9223372036854775807) HT_ ?_
   refine offA 63 (some 80) (bA 65 18446744073709551615) HT_ ?_
   refine purA 64 (some 81) (bA 65 36893488147419103231) HT_ ?_
   refine done_ (done_of HT_.out (by kernel_rfl)) ?_
   cases hp; go_wp2; go_ret
   exact ⟨rfl, hHeld⟩
end Go.Proofs.YtkedidjjhhjdbaaGreatDoor.Pr
