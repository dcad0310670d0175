import Derived.Test.YtkedidjjhhjdbaaGreatDoorV0
import Derived.Test.YtkedidjjhhjdbaaGreatDoorV16
import Derived.Test.YtkedidjjhhjdbaaGreatDoorV17
import Derived.Test.YtkedidjjhhjdbaaGreatDoorV11
section
set_option linter.unusedVariables false
set_option linter.unusedSimpArgs false
namespace Go.Proofs.YtkedidjjhhjdbaaGreatDoor.Pr
open Go.RowKit Go.Proofs.YtkedidjjhhjdbaaGreatDoorW.PrintWords Go.Proofs.YtkedidjjhhjdbaaGreatDoorW.PrintLast Go.Proofs.YtkedidjjhhjdbaaGreatDoorW.PrintMore
open List renaming setIfInBounds_toArray → LsA, set_cons_zero → LsZ, set_cons_succ → LsS
theorem drawn_trans {a b c : World} (h1 : Drawn0 a b) (h2 : Drawn0 b c) : Drawn0 a c := by
 obtain ⟨n, rfl⟩ := h2
 exact h1.step n
theorem C_drawn {α : Type} {d : Kd α} {w w' : World} {A : Option Addr} {n : Nat} {xs : List α} (h : d.C w A n xs) (hd : Drawn0 w w') : d.C w' A n xs := by
 obtain ⟨m, rfl⟩ := hd
 exact Kd.C_drewN h m
def belfryref11_Same.T6 : Bool × List (List Nat × List Nat) := (true, [([], []), ([], []), ([0, 1], [0, 1]), ([2], [2]), ([3], [3]), ([], []), ([], []), ([5, 6], [5, 6]), ([7], [7]), ([8], [8]), ([4, 9], [4, 9]), ([10], [10]), ([11], [11]), ([11], [11]), ([12, 13, 11], [11, 12, 13]), ([14, 11], [11, 14]), ([15, 11], [11, 15]), ([11], [11]), ([11], [11]), ([17, 18, 11], [11, 17, 18]), ([19, 11], [11, 19]), ([20, 11], [11, 20]), ([16, 21, 11], [11, 16, 21]), ([11, 22], [11, 22]), ([23, 11], [23]), ([24], [24]), ([24], [24]), ([25, 26, 24], [24, 25, 26]), ([27, 24], [24, 27]), ([28, 24], [24, 28]), ([24], [24]), ([24], [24]), ([30, 31, 24], [24, 30, 31]), ([32, 24], [24, 32]), ([33, 24], [24, 33]), ([29, 34, 24], [24, 29, 34]), ([24, 35], [24, 35]), ([36, 24], [36]), ([37], [37]), ([37], [37]), ([38, 39, 37], [37, 38, 39]), ([40, 37], [37, 40]), ([41, 37], [37, 41]), ([37], [37]), ([37], [37]), ([43, 44, 37], [37, 43, 44]), ([45, 37], [37, 45]), ([46, 37], [37, 46]), ([42, 47, 37, 37], [37, 42, 47]), ([48, 37], [37, 48]), ([37, 49], [37, 49]), ([50, 48], [50]), ([51], [51]), ([51], [51]), ([52, 53, 51], [51, 52, 53]), ([54, 51], [51, 54]), ([55, 51], [51, 55]), ([51], [51]), ([51], [51]), ([57, 58, 51], [51, 57, 58]), ([59, 51], [51, 59]), ([60, 51], [51, 60]), ([56, 61, 51, 51], [51, 56, 61]), ([62, 51], [51, 62]), ([51, 63], [51, 63])])
def belfryref11_Same.B6 : List Nat := [0, 0, 3, 7, 15, 0, 0, 96, 224, 480, 1023, 2047, 4095, 4095, 16383, 32767, 65535, 4095, 4095, 397311, 921599, 1970175, 4194303, 8388607, 16777215, 33554431, 33554431, 134217727, 268435455, 536870911, 33554431, 33554431, 3254779903, 7549747199, 16139681791, 34359738367, 68719476735, 137438953471, 274877906943, 274877906943, 1099511627775, 2199023255551, 4398046511103, 274877906943, 274877906943, 26663156973567, 61847529062399, 132216273240063, 281474976710655, 562949953421311, 1125899906842623, 2251799813685247, 4503599627370495, 4503599627370495, 18014398509481983, 36028797018963967, 72057594037927935, 4503599627370495, 4503599627370495, 436849163854938111, 1013309916158361599, 2166231420765208575, 4611686018427387903, 9223372036854775807, 18446744073709551615]
set_option maxRecDepth 100000 in
theorem belfryref11_Same.tab6 : rtab .any (opsOf Tryz.f14 6) = belfryref11_Same.T6 := by kernel_rfl
set_option maxRecDepth 100000 in
theorem belfryref11_Same.bits6 : waitsOk belfryref11_Same.T6.2 belfryref11_Same.B6 = true := by kernel_rfl
set_option maxHeartbeats 8000000 in
set_option maxRecDepth 100000 in
theorem ref_Same_self (k : Nat) (A0 A1 : Option Addr) (c0 c1 : Nat) (l : List S46) (w : World) (hr0 : Kd.C k46 w A0 l.length l) (hr1 : Kd.C k46 w A1 l.length l) (hc0 : l.length ≤ c0) (hc1 : l.length ≤ c1)
  (hm : ∀ x ∈ l, belfryref04_SameMatch.f k x.f3 x.f3 = some true ∧ belfryref11_texts.f k x.f4 x.f4 = some true) :
  Calls Tryz.prog 14 #[.slice A0 l.length c0, .slice A1 l.length c1] w fun e w' => e = .returned (.bool true) ∧ Drawn0 w w' := by
 have HR0 := Aside0.mk hr0; have HR1 := Aside0.mk hr1; have HM := Aside0.mk hm
 have hl9 : l.length ≤ 9223372036854775807 := hr0.2.1
 clear hr0 hr1 hm
 go_enter Tryz.func14, Tryz.ntmps14
 go_wp2
 go_loopw [5] (fun v5 wr => ∃ i : Nat, i ≤ l.length ∧ v5 = .int .i64 i ∧ Drawn0 w wr) (fun v5 _ => l.length - (intOf v5).toNat)
 case atStart => exact ⟨0, Nat.zero_le _, rfl, Drawn0.refl _⟩
 case round =>
  obtain ⟨i, hi, rfl, ⟨m, rfl⟩⟩ := hrel
  by_cases hlt : i < l.length; rotate_left
  ·
   obtain rfl : i = l.length := by omega
   have b0 : decide ((l.length : Int) < (l.length : Int)) = false := decide_eq_false (by omega)
   have b1 : decide (l.length < l.length) = false := decide_eq_false hlt
   go_wp2; go_ret
   exact ⟨rfl, ⟨_, rfl⟩⟩
  have b0 : decide ((i : Int) < (l.length : Int)) = true := decide_eq_true (by omega)
  have b1 : decide (i < l.length) = true := decide_eq_true hlt
  have p0 : (0 : Int) ≤ (i : Int) := by omega
  have q0 : (i : Int) < (l.length : Int) := by omega
  obtain ⟨ad, A3, c3, A4, c4, e9, hx0, hx1, hx2, hx3, hx4, l3, g3, l4, g4⟩ := at_T46 HR0.out (i : Int) p0 q0
  obtain ⟨bd, B3, d3, B4, d4, e8, hy0, hy1, hy2, hy3, hy4, n3, k3, n4, k4⟩ := at_T46 HR1.out (i : Int) p0 q0
  cases e9; cases e8; have hmm := HM.out (rd_T46 l (i : Int)) (by simp [rd_T46, List.getD, List.getElem?_eq_getElem hlt])
  rw [Int.toNat_natCast] at hx0 hx1 hx2 hx3 hx4 hy0 hy1 hy2 hy3 hy4
  generalize rd_T46 l (i : Int) = x at *
  have HSM := Aside0.mk hmm.1; have HTX := Aside0.mk hmm.2; have HG3 := Aside0.mk g3; have HG4 := Aside0.mk g4; have HK3 := Aside0.mk k3; have HK4 := Aside0.mk k4; clear hmm g3 g4 k3 k4; replace p0 := eq_true p0; replace q0 := eq_true q0
  have z0 : (x.f0 != x.f0) = false := by simp
  have z1 : (x.f1 != x.f1) = false := by simp
  have z2 : (x.f2.toList != x.f2.toList) = false := by simp
  go_upto_region 6 with (fail)
  refine start_ (n := 65) (S := fun w' => Drawn0 w w') (ds := []) (bA 65 0) (by kernel_rfl) rfl rfl ⟨m + 1, rfl⟩ (fun hHeld => ?_)
  refine with_tabW belfryref11_Same.tab6 belfryref11_Same.bits6 (fun HT_ HW_ => ?_)
  generalize (w.drewN m).drew = W0 at hHeld ⊢
  refine pur 0 (some 17) (bA 65 1) HT_ rfl rfl (by kernel_rfl) (v := ?_) (a' := ?_) (Or.inl ⟨by rfl, ?_⟩) ?_ ?_
  rotate_left
  · intro w'; go_simp; with_reducible rfl
  rotate_left
  · simp only [Act.put, LsA, LsZ, LsS, i64_w, i32_w]; rfl
  refine pur 1 (some 18) (bA 65 3) HT_ rfl rfl (by kernel_rfl) (v := ?_) (a' := ?_) (Or.inl ⟨by rfl, ?_⟩) ?_ ?_
  rotate_left
  · intro w'; go_simp; with_reducible rfl
  rotate_left
  · simp only [Act.put, LsA, LsZ, LsS, i64_w, i32_w]; rfl
  refine pur 2 (some 19) (bA 65 7) HT_ rfl rfl (by kernel_rfl) (v := ?_) (a' := ?_) (Or.inl ⟨by rfl, ?_⟩) ?_ ?_
  rotate_left
  · intro w'; go_simp; with_reducible rfl
  rotate_left
  · simp only [Act.put, LsA, LsZ, LsS, i64_w, i32_w]; rfl
  refine pur 3 (some 20) (bA 65 15) HT_ rfl rfl (by kernel_rfl) (v := ?_) (a' := ?_) (Or.inl ⟨by rfl, ?_⟩) ?_ ?_
  rotate_left
  · intro w'; go_simp; with_reducible rfl
  rotate_left
  · simp only [Act.put, LsA, LsZ, LsS, i64_w, i32_w]; rfl
  refine take_ (i := 4) (N := some 21) (v := ?_) (a' := ?_) (bA 65 31) rfl rfl (take_ofW HT_.out HW_.out (by kernel_rfl)) (fun _ _ _ h => h) (Or.inl ⟨by rfl, ?_⟩) hHeld ?_ ?_
  rotate_left
  ·
   rintro w' ⟨mm, rfl⟩
   go_simp; with_reducible rfl
  rotate_left
  · simp only [Act.put, LsA, LsZ, LsS, i64_w, i32_w]; rfl
  refine pur 5 (some 22) (bA 65 63) HT_ rfl rfl (by kernel_rfl) (v := ?_) (a' := ?_) (Or.inl ⟨by rfl, ?_⟩) ?_ ?_
  rotate_left
  · intro w'; go_simp; with_reducible rfl
  rotate_left
  · simp only [Act.put, LsA, LsZ, LsS, i64_w, i32_w]; rfl
  refine pur 6 (some 23) (bA 65 127) HT_ rfl rfl (by kernel_rfl) (v := ?_) (a' := ?_) (Or.inl ⟨by rfl, ?_⟩) ?_ ?_
  rotate_left
  · intro w'; go_simp; with_reducible rfl
  rotate_left
  · simp only [Act.put, LsA, LsZ, LsS, i64_w, i32_w]; rfl
  refine pur 7 (some 24) (bA 65 255) HT_ rfl rfl (by kernel_rfl) (v := ?_) (a' := ?_) (Or.inl ⟨by rfl, ?_⟩) ?_ ?_
  rotate_left
  · intro w'; go_simp; with_reducible rfl
  rotate_left
  · simp only [Act.put, LsA, LsZ, LsS, i64_w, i32_w]; rfl
  refine pur 8 (some 25) (bA 65 511) HT_ rfl rfl (by kernel_rfl) (v := ?_) (a' := ?_) (Or.inl ⟨by rfl, ?_⟩) ?_ ?_
  rotate_left
  · intro w'; go_simp; with_reducible rfl
  rotate_left
  · simp only [Act.put, LsA, LsZ, LsS, i64_w, i32_w]; rfl
  refine take_ (i := 9) (N := some 26) (v := ?_) (a' := ?_) (bA 65 1023) rfl rfl (take_ofW HT_.out HW_.out (by kernel_rfl)) (fun _ _ _ h => h) (Or.inl ⟨by rfl, ?_⟩) hHeld ?_ ?_
  rotate_left
  ·
   rintro w' ⟨mm, rfl⟩
   go_simp; with_reducible rfl
  rotate_left
  · simp only [Act.put, LsA, LsZ, LsS, i64_w, i32_w]; rfl
  refine pur 10 (some 27) (bA 65 2047) HT_ rfl rfl (by kernel_rfl) (v := ?_) (a' := ?_) (Or.inl ⟨by rfl, ?_⟩) ?_ ?_
  rotate_left
  · intro w'; go_simp; with_reducible rfl
  rotate_left
  · simp only [Act.put, LsA, LsZ, LsS, i64_w, i32_w]; rfl
  refine pur 11 (some 28) (bA 65 4095) HT_ rfl rfl (by kernel_rfl) (v := ?_) (a' := ?_) (Or.inl ⟨by rfl, ?_⟩) ?_ ?_
  rotate_left
  · intro w'; go_simp; with_reducible rfl
  rotate_left
  · simp only [Act.put, LsA, LsZ, LsS, i64_w, i32_w]; rfl
  refine pur 12 (some 29) (bA 65 8191) HT_ rfl rfl (by kernel_rfl) (v := ?_) (a' := ?_) (Or.inl ⟨by rfl, ?_⟩) ?_ ?_
  rotate_left
  · intro w'; go_simp; with_reducible rfl
  rotate_left
  · simp only [Act.put, LsA, LsZ, LsS, i64_w, i32_w]; rfl
  refine pur 13 (some 30) (bA 65 16383) HT_ rfl rfl (by kernel_rfl) (v := ?_) (a' := ?_) (Or.inl ⟨by rfl, ?_⟩) ?_ ?_
  rotate_left
  · intro w'; go_simp; with_reducible rfl
  rotate_left
  · simp only [Act.put, LsA, LsZ, LsS, i64_w, i32_w]; rfl
  refine pur 14 (some 31) (bA 65 32767) HT_ rfl rfl (by kernel_rfl) (v := ?_) (a' := ?_) (Or.inl ⟨by rfl, ?_⟩) ?_ ?_
  rotate_left
  · intro w'; go_simp; with_reducible rfl
  rotate_left
  · simp only [Act.put, LsA, LsZ, LsS, i64_w, i32_w]; rfl
  refine pur 15 (some 32) (bA 65 65535) HT_ rfl rfl (by kernel_rfl) (v := ?_) (a' := ?_) (Or.inl ⟨by rfl, ?_⟩) ?_ ?_
  rotate_left
  · intro w'; go_simp; with_reducible rfl
  rotate_left
  · simp only [Act.put, LsA, LsZ, LsS, i64_w, i32_w]; rfl
  refine take_ (i := 16) (N := some 33) (v := ?_) (a' := ?_) (bA 65 131071) rfl rfl (take_ofW HT_.out HW_.out (by kernel_rfl)) (fun _ _ _ h => h) (Or.inl ⟨by rfl, ?_⟩) hHeld ?_ ?_
  rotate_left
  ·
   rintro w' ⟨mm, rfl⟩
   go_simp; with_reducible rfl
  rotate_left
  · simp only [Act.put, LsA, LsZ, LsS, i64_w, i32_w]; rfl
  refine pur 17 (some 34) (bA 65 262143) HT_ rfl rfl (by kernel_rfl) (v := ?_) (a' := ?_) (Or.inl ⟨by rfl, ?_⟩) ?_ ?_
  rotate_left
  · intro w'; go_simp; with_reducible rfl
  rotate_left
  · simp only [Act.put, LsA, LsZ, LsS, i64_w, i32_w]; rfl
  refine pur 18 (some 35) (bA 65 524287) HT_ rfl rfl (by kernel_rfl) (v := ?_) (a' := ?_) (Or.inl ⟨by rfl, ?_⟩) ?_ ?_
  rotate_left
  · intro w'; go_simp; with_reducible rfl
  rotate_left
  · simp only [Act.put, LsA, LsZ, LsS, i64_w, i32_w]; rfl
  refine pur 19 (some 36) (bA 65 1048575) HT_ rfl rfl (by kernel_rfl) (v := ?_) (a' := ?_) (Or.inl ⟨by rfl, ?_⟩) ?_ ?_
  rotate_left
  · intro w'; go_simp; with_reducible rfl
  rotate_left
  · simp only [Act.put, LsA, LsZ, LsS, i64_w, i32_w]; rfl
  refine pur 20 (some 37) (bA 65 2097151) HT_ rfl rfl (by kernel_rfl) (v := ?_) (a' := ?_) (Or.inl ⟨by rfl, ?_⟩) ?_ ?_
  rotate_left
  · intro w'; go_simp; with_reducible rfl
  rotate_left
  · simp only [Act.put, LsA, LsZ, LsS, i64_w, i32_w]; rfl
  refine take_ (i := 21) (N := some 38) (v := ?_) (a' := ?_) (bA 65 4194303) rfl rfl (take_ofW HT_.out HW_.out (by kernel_rfl)) (fun _ _ _ h => h) (Or.inl ⟨by rfl, ?_⟩) hHeld ?_ ?_
  rotate_left
  ·
   rintro w' ⟨mm, rfl⟩
   go_simp; with_reducible rfl
  rotate_left
  · simp only [Act.put, LsA, LsZ, LsS, i64_w, i32_w]; rfl
  refine pur 22 (some 39) (bA 65 8388607) HT_ rfl rfl (by kernel_rfl) (v := ?_) (a' := ?_) (Or.inl ⟨by rfl, ?_⟩) ?_ ?_
  rotate_left
  · intro w'; go_simp; with_reducible rfl
  rotate_left
  · simp only [Act.put, LsA, LsZ, LsS, i64_w, i32_w]; rfl
  refine pur 23 (some 40) (bA 65 16777215) HT_ rfl rfl (by kernel_rfl) (v := ?_) (a' := ?_) (Or.inl ⟨by rfl, ?_⟩) ?_ ?_
  rotate_left
  · intro w'; go_simp; with_reducible rfl
  rotate_left
  · simp only [Act.put, LsA, LsZ, LsS, i64_w, i32_w]; rfl
  refine pur 24 (some 41) (bA 65 33554431) HT_ rfl rfl (by kernel_rfl) (v := ?_) (a' := ?_) (Or.inl ⟨by rfl, ?_⟩) ?_ ?_
  rotate_left
  · intro w'; go_simp; with_reducible rfl
  rotate_left
  · simp only [Act.put, LsA, LsZ, LsS, i64_w, i32_w]; rfl
  refine pur 25 (some 42) (bA 65 67108863) HT_ rfl rfl (by kernel_rfl) (v := ?_) (a' := ?_) (Or.inl ⟨by rfl, ?_⟩) ?_ ?_
  rotate_left
  · intro w'; go_simp; with_reducible rfl
  rotate_left
  · simp only [Act.put, LsA, LsZ, LsS, i64_w, i32_w]; rfl
  refine pur 26 (some 43) (bA 65 134217727) HT_ rfl rfl (by kernel_rfl) (v := ?_) (a' := ?_) (Or.inl ⟨by rfl, ?_⟩) ?_ ?_
  rotate_left
  · intro w'; go_simp; with_reducible rfl
  rotate_left
  · simp only [Act.put, LsA, LsZ, LsS, i64_w, i32_w]; rfl
  refine pur 27 (some 44) (bA 65 268435455) HT_ rfl rfl (by kernel_rfl) (v := ?_) (a' := ?_) (Or.inl ⟨by rfl, ?_⟩) ?_ ?_
  rotate_left
  · intro w'; go_simp; with_reducible rfl
  rotate_left
  · simp only [Act.put, LsA, LsZ, LsS, i64_w, i32_w]; rfl
  refine pur 28 (some 45) (bA 65 536870911) HT_ rfl rfl (by kernel_rfl) (v := ?_) (a' := ?_) (Or.inl ⟨by rfl, ?_⟩) ?_ ?_
  rotate_left
  · intro w'; go_simp; with_reducible rfl
  rotate_left
  · simp only [Act.put, LsA, LsZ, LsS, i64_w, i32_w]; rfl
  refine take_ (i := 29) (N := some 46) (v := ?_) (a' := ?_) (bA 65 1073741823) rfl rfl (take_ofW HT_.out HW_.out (by kernel_rfl)) (fun _ _ _ h => h) (Or.inl ⟨by rfl, ?_⟩) hHeld ?_ ?_
  rotate_left
  ·
   rintro w' ⟨mm, rfl⟩
   go_simp; with_reducible rfl
  rotate_left
  · simp only [Act.put, LsA, LsZ, LsS, i64_w, i32_w]; rfl
  refine pur 30 (some 47) (bA 65 2147483647) HT_ rfl rfl (by kernel_rfl) (v := ?_) (a' := ?_) (Or.inl ⟨by rfl, ?_⟩) ?_ ?_
  rotate_left
  · intro w'; go_simp; with_reducible rfl
  rotate_left
  · simp only [Act.put, LsA, LsZ, LsS, i64_w, i32_w]; rfl
  refine pur 31 (some 48) (bA 65 4294967295) HT_ rfl rfl (by kernel_rfl) (v := ?_) (a' := ?_) (Or.inl ⟨by rfl, ?_⟩) ?_ ?_
  rotate_left
  · intro w'; go_simp; with_reducible rfl
  rotate_left
  · simp only [Act.put, LsA, LsZ, LsS, i64_w, i32_w]; rfl
  refine pur 32 (some 49) (bA 65 8589934591) HT_ rfl rfl (by kernel_rfl) (v := ?_) (a' := ?_) (Or.inl ⟨by rfl, ?_⟩) ?_ ?_
  rotate_left
  · intro w'; go_simp; with_reducible rfl
  rotate_left
  · simp only [Act.put, LsA, LsZ, LsS, i64_w, i32_w]; rfl
  refine pur 33 (some 50) (bA 65 17179869183) HT_ rfl rfl (by kernel_rfl) (v := ?_) (a' := ?_) (Or.inl ⟨by rfl, ?_⟩) ?_ ?_
  rotate_left
  · intro w'; go_simp; with_reducible rfl
  rotate_left
  · simp only [Act.put, LsA, LsZ, LsS, i64_w, i32_w]; rfl
  refine take_ (i := 34) (N := some 51) (v := ?_) (a' := ?_) (bA 65 34359738367) rfl rfl (take_ofW HT_.out HW_.out (by kernel_rfl)) (fun _ _ _ h => h) (Or.inl ⟨by rfl, ?_⟩) hHeld ?_ ?_
  rotate_left
  ·
   rintro w' ⟨mm, rfl⟩
   go_simp; with_reducible rfl
  rotate_left
  · simp only [Act.put, LsA, LsZ, LsS, i64_w, i32_w]; rfl
  refine pur 35 (some 52) (bA 65 68719476735) HT_ rfl rfl (by kernel_rfl) (v := ?_) (a' := ?_) (Or.inl ⟨by rfl, ?_⟩) ?_ ?_
  rotate_left
  · intro w'; go_simp; with_reducible rfl
  rotate_left
  · simp only [Act.put, LsA, LsZ, LsS, i64_w, i32_w]; rfl
  refine pur 36 (some 53) (bA 65 137438953471) HT_ rfl rfl (by kernel_rfl) (v := ?_) (a' := ?_) (Or.inl ⟨by rfl, ?_⟩) ?_ ?_
  rotate_left
  · intro w'; go_simp; with_reducible rfl
  rotate_left
  · simp only [Act.put, LsA, LsZ, LsS, i64_w, i32_w]; rfl
  refine pur 37 (some 54) (bA 65 274877906943) HT_ rfl rfl (by kernel_rfl) (v := ?_) (a' := ?_) (Or.inl ⟨by rfl, ?_⟩) ?_ ?_
  rotate_left
  · intro w'; go_simp; with_reducible rfl
  rotate_left
  · simp only [Act.put, LsA, LsZ, LsS, i64_w, i32_w]; rfl
  refine pur 38 (some 55) (bA 65 549755813887) HT_ rfl rfl (by kernel_rfl) (v := ?_) (a' := ?_) (Or.inl ⟨by rfl, ?_⟩) ?_ ?_
  rotate_left
  · intro w'; go_simp; with_reducible rfl
  rotate_left
  · simp only [Act.put, LsA, LsZ, LsS, i64_w, i32_w]; rfl
  refine pur 39 (some 56) (bA 65 1099511627775) HT_ rfl rfl (by kernel_rfl) (v := ?_) (a' := ?_) (Or.inl ⟨by rfl, ?_⟩) ?_ ?_
  rotate_left
  · intro w'; go_simp; with_reducible rfl
  rotate_left
  · simp only [Act.put, LsA, LsZ, LsS, i64_w, i32_w]; rfl
  refine pur 40 (some 57) (bA 65 2199023255551) HT_ rfl rfl (by kernel_rfl) (v := ?_) (a' := ?_) (Or.inl ⟨by rfl, ?_⟩) ?_ ?_
  rotate_left
  · intro w'; go_simp; with_reducible rfl
  rotate_left
  · simp only [Act.put, LsA, LsZ, LsS, i64_w, i32_w]; rfl
  refine pur 41 (some 58) (bA 65 4398046511103) HT_ rfl rfl (by kernel_rfl) (v := ?_) (a' := ?_) (Or.inl ⟨by rfl, ?_⟩) ?_ ?_
  rotate_left
  · intro w'; go_simp; with_reducible rfl
  rotate_left
  · simp only [Act.put, LsA, LsZ, LsS, i64_w, i32_w]; rfl
  refine take_ (i := 42) (N := some 59) (v := ?_) (a' := ?_) (bA 65 8796093022207) rfl rfl (take_ofW HT_.out HW_.out (by kernel_rfl)) (fun _ _ _ h => h) (Or.inl ⟨by rfl, ?_⟩) hHeld ?_ ?_
  rotate_left
  ·
   rintro w' ⟨mm, rfl⟩
   go_simp; with_reducible rfl
  rotate_left
  · simp only [Act.put, LsA, LsZ, LsS, i64_w, i32_w]; rfl
  refine pur 43 (some 60) (bA 65 17592186044415) HT_ rfl rfl (by kernel_rfl) (v := ?_) (a' := ?_) (Or.inl ⟨by rfl, ?_⟩) ?_ ?_
  rotate_left
  · intro w'; go_simp; with_reducible rfl
  rotate_left
  · simp only [Act.put, LsA, LsZ, LsS, i64_w, i32_w]; rfl
  refine pur 44 (some 61) (bA 65 35184372088831) HT_ rfl rfl (by kernel_rfl) (v := ?_) (a' := ?_) (Or.inl ⟨by rfl, ?_⟩) ?_ ?_
  rotate_left
  · intro w'; go_simp; with_reducible rfl
  rotate_left
  · simp only [Act.put, LsA, LsZ, LsS, i64_w, i32_w]; rfl
  refine pur 45 (some 62) (bA 65 70368744177663) HT_ rfl rfl (by kernel_rfl) (v := ?_) (a' := ?_) (Or.inl ⟨by rfl, ?_⟩) ?_ ?_
  rotate_left
  · intro w'; go_simp; with_reducible rfl
  rotate_left
  · simp only [Act.put, LsA, LsZ, LsS, i64_w, i32_w]; rfl
  refine pur 46 (some 63) (bA 65 140737488355327) HT_ rfl rfl (by kernel_rfl) (v := ?_) (a' := ?_) (Or.inl ⟨by rfl, ?_⟩) ?_ ?_
  rotate_left
  · intro w'; go_simp; with_reducible rfl
  rotate_left
  · simp only [Act.put, LsA, LsZ, LsS, i64_w, i32_w]; rfl
  refine take_ (i := 47) (N := some 64) (v := ?_) (a' := ?_) (bA 65 281474976710655) rfl rfl (take_ofW HT_.out HW_.out (by kernel_rfl)) (fun _ _ _ h => h) (Or.inl ⟨by rfl, ?_⟩) hHeld ?_ ?_
  rotate_left
  ·
   rintro w' ⟨mm, rfl⟩
   go_simp; with_reducible rfl
  rotate_left
  · simp only [Act.put, LsA, LsZ, LsS, i64_w, i32_w]; rfl
  refine one_ (i := 48) (N := some 65) (bA 65 562949953421311) rfl rfl (one_of HT_.out (by kernel_rfl)) (by decide) (fun K hK => ?_)
  refine goes_ Tryz.func33 (by kernel_rfl) rfl #[.slice A3 x.f3.length c3, .slice B3 x.f3.length d3] (by rfl) rfl rfl (by (try simp only [List.map_toArray, List.map_cons, List.map_nil]); first | done | rfl) ?_
  refine (belfryref04_SameMatch.calls k A3 c3 x.f3 B3 d3 x.f3 true _ (C_drawn HG3.out hHeld) l3 (C_drawn HK3.out hHeld) n3 HSM.out).mono ?_
  rintro e w2 ⟨rfl, hd2⟩
  refine ⟨_, rfl, ?_⟩
  refine hK.out _ _ (drawn_trans hHeld hd2) (fun hHeld => ?_)
  clear hK K hd2
  refine norm_ (a' := ?_) ?_ ?_
  rotate_left
  ·
   show Act.put _ (some 65) _ = _
   simp only [Act.put, LsA, LsZ, LsS, i64_w, i32_w]; rfl
  refine pur 49 (some 66) (bA 65 1125899906842623) HT_ rfl rfl (by kernel_rfl) (v := ?_) (a' := ?_) (Or.inl ⟨by rfl, ?_⟩) ?_ ?_
  rotate_left
  · intro w'; go_simp; with_reducible rfl
  rotate_left
  · simp only [Act.put, LsA, LsZ, LsS, i64_w, i32_w]; rfl
  refine pur 50 (some 67) (bA 65 2251799813685247) HT_ rfl rfl (by kernel_rfl) (v := ?_) (a' := ?_) (Or.inl ⟨by rfl, ?_⟩) ?_ ?_
  rotate_left
  · intro w'; go_simp; with_reducible rfl
  rotate_left
  · simp only [Act.put, LsA, LsZ, LsS, i64_w, i32_w]; rfl
  refine pur 51 (some 68) (bA 65 4503599627370495) HT_ rfl rfl (by kernel_rfl) (v := ?_) (a' := ?_) (Or.inl ⟨by rfl, ?_⟩) ?_ ?_
  rotate_left
  · intro w'; go_simp; with_reducible rfl
  rotate_left
  · simp only [Act.put, LsA, LsZ, LsS, i64_w, i32_w]; rfl
  refine pur 52 (some 69) (bA 65 9007199254740991) HT_ rfl rfl (by kernel_rfl) (v := ?_) (a' := ?_) (Or.inl ⟨by rfl, ?_⟩) ?_ ?_
  rotate_left
  · intro w'; go_simp; with_reducible rfl
  rotate_left
  · simp only [Act.put, LsA, LsZ, LsS, i64_w, i32_w]; rfl
  refine pur 53 (some 70) (bA 65 18014398509481983) HT_ rfl rfl (by kernel_rfl) (v := ?_) (a' := ?_) (Or.inl ⟨by rfl, ?_⟩) ?_ ?_
  rotate_left
  · intro w'; go_simp; with_reducible rfl
  rotate_left
  · simp only [Act.put, LsA, LsZ, LsS, i64_w, i32_w]; rfl
  refine pur 54 (some 71) (bA 65 36028797018963967) HT_ rfl rfl (by kernel_rfl) (v := ?_) (a' := ?_) (Or.inl ⟨by rfl, ?_⟩) ?_ ?_
  rotate_left
  · intro w'; go_simp; with_reducible rfl
  rotate_left
  · simp only [Act.put, LsA, LsZ, LsS, i64_w, i32_w]; rfl
  refine pur 55 (some 72) (bA 65 72057594037927935) HT_ rfl rfl (by kernel_rfl) (v := ?_) (a' := ?_) (Or.inl ⟨by rfl, ?_⟩) ?_ ?_
  rotate_left
  · intro w'; go_simp; with_reducible rfl
  rotate_left
  · simp only [Act.put, LsA, LsZ, LsS, i64_w, i32_w]; rfl
  refine take_ (i := 56) (N := some 73) (v := ?_) (a' := ?_) (bA 65 144115188075855871) rfl rfl (take_ofW HT_.out HW_.out (by kernel_rfl)) (fun _ _ _ h => h) (Or.inl ⟨by rfl, ?_⟩) hHeld ?_ ?_
  rotate_left
  ·
   rintro w' ⟨mm, rfl⟩
   go_simp; with_reducible rfl
  rotate_left
  · simp only [Act.put, LsA, LsZ, LsS, i64_w, i32_w]; rfl
  refine pur 57 (some 74) (bA 65 288230376151711743) HT_ rfl rfl (by kernel_rfl) (v := ?_) (a' := ?_) (Or.inl ⟨by rfl, ?_⟩) ?_ ?_
  rotate_left
  · intro w'; go_simp; with_reducible rfl
  rotate_left
  · simp only [Act.put, LsA, LsZ, LsS, i64_w, i32_w]; rfl
  refine pur 58 (some 75) (bA 65 576460752303423487) HT_ rfl rfl (by kernel_rfl) (v := ?_) (a' := ?_) (Or.inl ⟨by rfl, ?_⟩) ?_ ?_
  rotate_left
  · intro w'; go_simp; with_reducible rfl
  rotate_left
  · simp only [Act.put, LsA, LsZ, LsS, i64_w, i32_w]; rfl
  refine pur 59 (some 76) (bA 65 1152921504606846975) HT_ rfl rfl (by kernel_rfl) (v := ?_) (a' := ?_) (Or.inl ⟨by rfl, ?_⟩) ?_ ?_
  rotate_left
  · intro w'; go_simp; with_reducible rfl
  rotate_left
  · simp only [Act.put, LsA, LsZ, LsS, i64_w, i32_w]; rfl
  refine pur 60 (some 77) (bA 65 2305843009213693951) HT_ rfl rfl (by kernel_rfl) (v := ?_) (a' := ?_) (Or.inl ⟨by rfl, ?_⟩) ?_ ?_
  rotate_left
  · intro w'; go_simp; with_reducible rfl
  rotate_left
  · simp only [Act.put, LsA, LsZ, LsS, i64_w, i32_w]; rfl
  refine take_ (i := 61) (N := some 78) (v := ?_) (a' := ?_) (bA 65 4611686018427387903) rfl rfl (take_ofW HT_.out HW_.out (by kernel_rfl)) (fun _ _ _ h => h) (Or.inl ⟨by rfl, ?_⟩) hHeld ?_ ?_
  rotate_left
  ·
   rintro w' ⟨mm, rfl⟩
   go_simp; with_reducible rfl
  rotate_left
  · simp only [Act.put, LsA, LsZ, LsS, i64_w, i32_w]; rfl
  refine one_ (i := 62) (N := some 79) (bA 65 9223372036854775807) rfl rfl (one_of HT_.out (by kernel_rfl)) (by decide) (fun K hK => ?_)
  refine goes_ Tryz.func34 (by kernel_rfl) rfl #[.slice A4 x.f4.length c4, .slice B4 x.f4.length d4] (by rfl) rfl rfl (by (try simp only [List.map_toArray, List.map_cons, List.map_nil]); first | done | rfl) ?_
  refine (belfryref11_texts.calls k A4 c4 x.f4 B4 d4 x.f4 true _ (C_drawn HG4.out hHeld) l4 (C_drawn HK4.out hHeld) n4 HTX.out).mono ?_
  rintro e w2 ⟨rfl, hd2⟩
  refine ⟨_, rfl, ?_⟩
  refine hK.out _ _ (drawn_trans hHeld hd2) (fun hHeld => ?_)
  clear hK K hd2
  refine norm_ (a' := ?_) ?_ ?_
  rotate_left
  ·
   show Act.put _ (some 79) _ = _
   simp only [Act.put, LsA, LsZ, LsS, i64_w, i32_w]; rfl
  refine pur 63 (some 80) (bA 65 18446744073709551615) HT_ rfl rfl (by kernel_rfl) (v := ?_) (a' := ?_) (Or.inl ⟨by rfl, ?_⟩) ?_ ?_
  rotate_left
  · intro w'; go_simp; with_reducible rfl
  rotate_left
  · simp only [Act.put, LsA, LsZ, LsS, i64_w, i32_w]; rfl
  refine pur 64 (some 81) (bA 65 36893488147419103231) HT_ rfl rfl (by kernel_rfl) (v := ?_) (a' := ?_) (Or.inl ⟨by rfl, ?_⟩) ?_ ?_
  rotate_left
  · intro w'; go_simp; with_reducible rfl
  rotate_left
  · simp only [Act.put, LsA, LsZ, LsS, i64_w, i32_w]; rfl
  refine done_ (done_of HT_.out (by kernel_rfl)) ?_
  go_wp2
  go_roundw
  case rel => exact ⟨i + 1, hlt, by go_num, hHeld⟩
  case measure => simp [intOf]; omega
end Go.Proofs.YtkedidjjhhjdbaaGreatDoor.Pr
end
section
set_option linter.unusedVariables false
set_option linter.unusedSimpArgs false
namespace Go.Proofs.YtkedidjjhhjdbaaGreatDoor.Pr
open Go.RowKit Go.Proofs.YtkedidjjhhjdbaaGreatDoorW.PrintWords Go.Proofs.YtkedidjjhhjdbaaGreatDoorW.PrintLast Go.Proofs.YtkedidjjhhjdbaaGreatDoorW.PrintMore
def Wr (e sz lo hi : Nat) (W : World) (v : Value) : Prop := ∃ A m c, v = .slice A m c ∧ m ≤ c ∧ m ≤ 9223372036854775807 ∧ (m = 0 ∨ ∃ g cur, A = some ⟨g, 0, none⟩ ∧ lo ≤ g ∧ g < hi ∧ W.heap[g]? = some (.cells cur e (0, 0)) ∧ m * sz ≤ cur.size)
theorem Wr.set {e sz lo hi : Nat} {W : World} {v : Value} (h : Wr e sz lo hi W v) {g t : Nat} {cs : Array Value} (hb : W.heap[g]? = some (.cells cs t (0, 0))) (j : Nat) (u : Value) : Wr e sz lo hi (W.setCell ⟨g, j, none⟩ u) v := by
 obtain ⟨A, m, c, rfl, hc, hm, h⟩ := h
 refine ⟨A, m, c, rfl, hc, hm, ?_⟩
 rcases h with rfl | ⟨g1, cur, rfl, h1, h2, h3, h4⟩
 · exact .inl rfl
 by_cases hg : g1 = g; rotate_left
 · exact .inr ⟨g1, cur, rfl, h1, h2, blk_far h3 (by simpa using hg) u, h4⟩
 subst hg; rw [hb] at h3
 injection h3 with h3
 injection h3 with h5 h6
 subst h5; subst h6
 exact .inr ⟨g1, _, rfl, h1, h2, blk_set hb j u, by simpa using h4⟩
structure Spl (T st o1 o2 lo hi n : Nat) (f1 f2 : Nat → Value) (g : Nat) (W : World) : Prop where
  out : ∃ cur, W.heap[g]? = some (.cells cur T (0, 0)) ∧ ∀ i, i < n → cur[i * st + o1]? = some (f1 i) ∧ cur[i * st + o2]? = some (f2 i)
  in1 : ∀ i, i < n → Wr 33 3 lo hi W (f1 i)
  in2 : ∀ i, i < n → Wr 9 1 lo hi W (f2 i)
theorem Spl.set {T st o1 o2 lo hi n : Nat} {f1 f2 : Nat → Value} {g : Nat} {W : World} (h : Spl T st o1 o2 lo hi n f1 f2 g W) {g' t : Nat} {cs : Array Value} (hb : W.heap[g']? = some (.cells cs t (0, 0))) (ht : T ≠ t) (j : Nat) (u : Value) : Spl T st o1 o2 lo hi n f1 f2 g (W.setCell ⟨g', j, none⟩ u) := by
 obtain ⟨⟨cur, hc, hf⟩, h1, h2⟩ := h
 exact ⟨⟨cur, blk_far hc (blk_ne hc hb ht) u, hf⟩, fun i hi => (h1 i hi).set hb j u, fun i hi => (h2 i hi).set hb j u⟩
theorem Spl.drewN {T st o1 o2 lo hi n : Nat} {f1 f2 : Nat → Value} {g : Nat} {W : World} (h : Spl T st o1 o2 lo hi n f1 f2 g W) (m : Nat) : Spl T st o1 o2 lo hi n f1 f2 g (W.drewN m) := ⟨h.out, h.in1, h.in2⟩
theorem Spl.cell1 {T st o1 o2 lo hi n : Nat} {f1 f2 : Nat → Value} {g : Nat} {W : World} (h : Spl T st o1 o2 lo hi n f1 f2 g W) (i : Nat) (hi : i < n) : W.cell? ⟨g, i * st + o1, none⟩ = some (f1 i) := by
 obtain ⟨cur, hc, hf⟩ := h.out
 exact (blk_cell hc _).trans (hf i hi).1
theorem Spl.cell2 {T st o1 o2 lo hi n : Nat} {f1 f2 : Nat → Value} {g : Nat} {W : World} (h : Spl T st o1 o2 lo hi n f1 f2 g W) (i : Nat) (hi : i < n) : W.cell? ⟨g, i * st + o2, none⟩ = some (f2 i) := by
 obtain ⟨cur, hc, hf⟩ := h.out
 exact (blk_cell hc _).trans (hf i hi).2
structure Chg (lo hi : Nat) (W W' : World) : Prop where
  be : Below lo W W'
  up : ∀ k, hi ≤ k → W'.heap[k]? = W.heap[k]?
theorem Chg.refl (lo hi : Nat) (W : World) : Chg lo hi W W := ⟨Below.refl _ _, fun _ _ => rfl⟩
theorem Chg.set {lo hi : Nat} {W W' : World} (h : Chg lo hi W W') {g : Nat} (h1 : lo ≤ g) (h2 : g < hi) (j : Nat) (u : Value) : Chg lo hi W (W'.setCell ⟨g, j, none⟩ u) :=
 ⟨h.be.setCell h1 u, fun k hk => (Below.heap_setCell W' ⟨g, j, none⟩ u k (by show k ≠ g; omega)).trans (h.up k hk)⟩
theorem Wr.at {e sz lo hi : Nat} {W : World} {A : Option Addr} {m c : Nat} (h : Wr e sz lo hi W (.slice A m c)) (hs : 0 < sz) (k : Nat) (hk : k < m) : ∃ g cur u, A = some ⟨g, 0, none⟩ ∧ lo ≤ g ∧ g < hi ∧ W.heap[g]? = some (.cells cur e (0, 0)) ∧ W.cell? ⟨g, k * sz, none⟩ = some u ∧ W.frozen? ⟨g, k * sz, none⟩ = false := by
 obtain ⟨A1, m1, c1, e1, _, _, h⟩ := h
 injection e1 with e1 e2 e3
 subst e1; subst e2; subst e3
 rcases h with rfl | ⟨g, cur, rfl, h1, h2, h3, h4⟩
 · omega
 have hlt : k * sz < cur.size := by
  have : k * sz < m * sz := Nat.mul_lt_mul_of_pos_right hk hs
  omega
 exact ⟨g, cur, cur[k * sz], rfl, h1, h2, h3, (blk_cell h3 _).trans (Array.getElem?_eq_getElem hlt), blk_frozen h3 _⟩
set_option maxHeartbeats 8000000 in
set_option maxRecDepth 100000 in
theorem spoil_walk (lo hi g n c : Nat) (f1 f2 : Nat → Value) (w : World) (hS : Spl 46 5 3 4 lo hi n f1 f2 g w) (hn : n ≤ 1048576) (hnc : n ≤ c) :
  Calls Tryz.prog 15 #[.slice (some ⟨g, 0, none⟩) n c] w fun e w' => e = .returned (.tuple #[]) ∧ Chg lo hi w w' := by
 have HS := Aside0.mk hS; clear hS
 go_enter Tryz.func15, Tryz.ntmps15
 go_wp2
 go_loopw [2, 3, 4] (fun v2 _ _ wr => ∃ i : Nat, i ≤ n ∧ v2 = .int .i64 i ∧ Aside0 (Spl 46 5 3 4 lo hi n f1 f2 g wr) ∧ Aside0 (Chg lo hi w wr)) (fun v2 _ _ _ => n - (intOf v2).toNat)
 case atStart => exact ⟨0, Nat.zero_le _, rfl, HS, ⟨Chg.refl _ _ _⟩⟩
 case round =>
  clear HS
  obtain ⟨i, hin, rfl, HS, HC⟩ := hrel
  by_cases hlt : i < n; rotate_left
  ·
   obtain rfl : i = n := by omega
   have b0 : decide ((i : Int) < (i : Int)) = false := decide_eq_false (by omega)
   have b1 : decide (i < i) = false := decide_eq_false hlt
   go_wp2
   first | go_end0 | refine bodyPost_ret (results_none rfl _ _ _) rfl ?_
   exact ⟨rfl, HC.out⟩
  have b0 : decide ((i : Int) < (n : Int)) = true := decide_eq_true (by omega)
  have b1 : decide (i < n) = true := decide_eq_true hlt
  have p0 := eq_true (show (0 : Int) ≤ (i : Int) by omega)
  have q0 := eq_true (show (i : Int) < (n : Int) by omega)
  obtain ⟨A1, m1, c1, e1, hmc, hmm, _⟩ := HS.out.in1 i hlt
  obtain ⟨A2, m2, c2, e2, hmc2, hmm2, _⟩ := HS.out.in2 i hlt
  go_wp2
  go_loopw [3] (fun v3 ws => ∃ k : Nat, k ≤ m1 ∧ v3 = .int .i64 k ∧ Aside0 (Spl 46 5 3 4 lo hi n f1 f2 g ws) ∧ Aside0 (Chg lo hi w ws)) (fun v3 _ => m1 - (intOf v3).toNat)
  case atStart => exact ⟨0, Nat.zero_le _, rfl, HS, HC⟩
  case round =>
   clear HS HC
   obtain ⟨k, hk, rfl, HS, HC⟩ := hrel
   have hx := HS.out.cell1 i hlt; rw [e1] at hx; by_cases hkl : k < m1
   ·
    have b2 : decide ((k : Int) < (m1 : Int)) = true := decide_eq_true (by omega)
    have b3 : decide (k < m1) = true := decide_eq_true hkl
    have p1 := eq_true (show (0 : Int) ≤ (k : Int) by omega)
    have q1 := eq_true (show (k : Int) < (m1 : Int) by omega)
    obtain ⟨g1, cur, u, rfl, h1, h2, h3, h4, h5⟩ := (e1 ▸ HS.out.in1 i hlt).at (by decide) k hkl
    go_wp2
    go_roundw
    case rel => exact ⟨k + 1, hkl, by go_num, ⟨HS.out.set h3 (by decide) _ _⟩, ⟨HC.out.set h1 h2 _ _⟩⟩
    case measure => simp [intOf]; omega
   obtain rfl : k = m1 := by omega
   have b2 : decide ((k : Int) < (k : Int)) = false := decide_eq_false (by omega)
   have b3 : decide (k < k) = false := decide_eq_false hkl
   go_wp2
   go_loopw [4] (fun v4 ws => ∃ k : Nat, k ≤ m2 ∧ v4 = .int .i64 k ∧ Aside0 (Spl 46 5 3 4 lo hi n f1 f2 g ws) ∧ Aside0 (Chg lo hi w ws)) (fun v4 _ => m2 - (intOf v4).toNat)
   case atStart => exact ⟨0, Nat.zero_le _, rfl, HS, HC⟩
   case round =>
    clear HS HC hx
    obtain ⟨k, hk, rfl, HS, HC⟩ := hrel
    have hx := HS.out.cell2 i hlt; rw [e2] at hx; by_cases hkl : k < m2; rotate_left
    ·
     obtain rfl : k = m2 := by omega
     have b2 : decide ((k : Int) < (k : Int)) = false := decide_eq_false (by omega)
     have b3 : decide (k < k) = false := decide_eq_false hkl
     go_wp2
     go_roundw
     case rel => exact ⟨i + 1, hlt, by go_num, HS, HC⟩
     case measure => simp [intOf]; omega
    have b2 : decide ((k : Int) < (m2 : Int)) = true := decide_eq_true (by omega)
    have b3 : decide (k < m2) = true := decide_eq_true hkl
    have p1 := eq_true (show (0 : Int) ≤ (k : Int) by omega)
    have q1 := eq_true (show (k : Int) < (m2 : Int) by omega)
    obtain ⟨g1, cur, u, rfl, h1, h2, h3, h4, h5⟩ := (e2 ▸ HS.out.in2 i hlt).at (by decide) k hkl
    rw [Nat.mul_one] at h4 h5
    go_wp2
    go_roundw
    case rel => exact ⟨k + 1, hkl, by go_num, ⟨HS.out.set h3 (by decide) _ _⟩, ⟨HC.out.set h1 h2 _ _⟩⟩
    case measure => simp [intOf]; omega
end Go.Proofs.YtkedidjjhhjdbaaGreatDoor.Pr
end
