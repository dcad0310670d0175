import Derived.Test.YtkedidjjhhjdbaaGreatDoorWc0
import Derived.Test.YtkedidjjhhjdbaaGreatDoorWc26
import Derived.Test.YtkedidjjhhjdbaaGreatDoorWc16
import Derived.Test.YtkedidjjhhjdbaaGreatDoorWc5
import Derived.Test.YtkedidjjhhjdbaaGreatDoorWc13
import Derived.Test.YtkedidjjhhjdbaaGreatDoorWc15
import Derived.Test.YtkedidjjhhjdbaaGreatDoorWc12
import Derived.Test.YtkedidjjhhjdbaaGreatDoorWc10
import Derived.Test.YtkedidjjhhjdbaaGreatDoorWc17
import Derived.Test.YtkedidjjhhjdbaaGreatDoorWc22
import Derived.Test.YtkedidjjhhjdbaaGreatDoorWc21
section
set_option linter.unusedVariables false
set_option linter.unusedSimpArgs false
namespace Go.Proofs.YtkedidjjhhjdbaaGreatDoor.Pr
open Go.RowKit Go.Proofs.YtkedidjjhhjdbaaGreatDoorW.PrintWords Go.Proofs.YtkedidjjhhjdbaaGreatDoorW.PrintLast Go.Proofs.YtkedidjjhhjdbaaGreatDoorW.PrintMore
set_option maxHeartbeats 8000000 in
set_option maxRecDepth 100000 in
theorem known.calls (k : Nat) (w : World) (h : belfrylaw11_known.f k = some true)
  (he_ : EnvW w := by repeat (first | with_reducible assumption | with_reducible exact env_of (by with_reducible assumption) (by with_reducible assumption) | with_reducible exact env_out (by with_reducible assumption) | with_reducible apply env_alloc | with_reducible apply env_drewN | with_reducible apply env_drew | with_reducible refine env_set ?_ (by with_reducible assumption) (by with_reducible assumption))) :
  Calls Tryz.prog 9 #[] w fun e w' => e = .returned (.bool true) ∧ Below w.heap.size w w' := by
 unfold belfrylaw11_known.f at h
 obtain ⟨⟨l1, p1, q1⟩, hp1, h1⟩ := Option.bind_eq_some_iff.mp h
 clear h
 obtain ⟨⟨l2, p2, q2⟩, hp2, h2⟩ := Option.bind_eq_some_iff.mp h1
 clear h1
 obtain ⟨v1, hv1, h3⟩ := Option.bind_eq_some_iff.mp h2
 clear h2
 obtain ⟨v2, hv2, h⟩ := Option.bind_eq_some_iff.mp h3
 clear h3
 simp only at hv1 hv2 h
 by_cases c1 : p1 = 0
 case neg => rw [if_neg c1] at h; simp at h
 rw [if_pos c1] at h; subst c1; by_cases c2 : (l1.length : Int) = 2
 case neg => rw [if_neg c2] at h; simp at h
 rw [if_pos c2] at h; by_cases c3 : p2 = 110
 case neg => rw [if_neg c3] at h; simp at h
 rw [if_pos c3] at h; subst c3; by_cases c4 : q2 = 1
 case neg => rw [if_neg c4] at h; simp at h
 rw [if_pos c4] at h; subst c4; by_cases c5 : (v1.length : Int) = 1
 case neg => rw [if_neg c5] at h; simp at h
 rw [if_pos c5] at h; by_cases c6 : 0 < (v1.length : Int)
 case neg => rw [if_neg c6] at h; simp at h
 rw [if_pos c6] at h; by_cases c7 : (((rd_T31 v1 0).f1).length : Int) = 2
 case neg => rw [if_neg c7] at h; simp at h
 rw [if_pos c7] at h; by_cases c8 : (((rd_T31 v1 0).f2).length : Int) = 1
 case neg => rw [if_neg c8] at h; simp at h
 rw [if_pos c8] at h
 have c9 : ((v2.length : Int) == 0) = true := by simpa using h
 have HP1 := Aside0.mk hp1; have HP2 := Aside0.mk hp2; have HV1 := Aside0.mk hv1; have HV2 := Aside0.mk hv2; have HE := Aside0.mk he_; have HB := Aside0.mk (Below.refl w.heap.size w); clear hp1 hp2 hv1 hv2 he_ h
 go_enter Tryz.func9, Tryz.ntmps9
 go_wp2_with fail
 refine (policy_Parse.calls k _ l1 0 q1 w HP1.out HE.out).mono ?_
 rintro e w1 ⟨u1, rfl, ho1, hb⟩
 have HO1 := Aside0.mk ho1
 replace HB := Aside0.mk hb
 clear ho1 hb HP1
 obtain ⟨A1, c1, rfl⟩ := Kd.S_slice HO1.out
 go_wp2_with fail
 refine (policy_Parse.calls k _ l2 110 1 w1 HP2.out (env_below HE.out HB.out)).mono ?_
 rintro e w2 ⟨u2, rfl, ho2, hb⟩
 have HO2 := Aside0.mk ho2
 replace HO1 := Aside0.mk (Kd.S_below HO1.out hb)
 replace HB := Aside0.mk (below_step HB.out hb)
 clear ho2 hb HP2
 obtain ⟨A2, c2', rfl⟩ := Kd.S_slice HO2.out
 go_wp2_with fail
 refine (policy_Views.calls k A1 c1 l1 _ _ 2 v1 w2 (Kd.S_reads' HO1.out).2.2 (Kd.S_reads' HO1.out).2.1 HV1.out (env_below HE.out HB.out)).mono ?_
 rintro e w3 ⟨u3, rfl, ho3, hb⟩
 have HO3 := Aside0.mk ho3
 replace HO1 := Aside0.mk (Kd.S_below HO1.out hb)
 replace HB := Aside0.mk (below_step HB.out hb)
 clear ho3 hb HV1 HO2
 obtain ⟨A3, c3, rfl⟩ := Kd.R_slice HO3.out
 go_wp2_with fail
 refine (policy_Views.calls k A1 c1 l1 _ _ 2 v2 w3 (Kd.S_reads' HO1.out).2.2 (Kd.S_reads' HO1.out).2.1 HV2.out (env_below HE.out HB.out)).mono ?_
 rintro e w4 ⟨u4, rfl, ho4, hb⟩
 have HO4 := Aside0.mk ho4
 replace HO3 := Aside0.mk (Kd.R_below HO3.out hb)
 replace HB := Aside0.mk (below_step HB.out hb)
 clear ho4 hb HV2 HO1
 obtain ⟨A4, c4, rfl⟩ := Kd.R_slice HO4.out
 obtain ⟨ad, B1, d1, B2, d2, e3, hx0, hx1, hx2, _⟩ := at_T31 (kV_C (Kd.R_reads' HO3.out).2.2) 0 (Int.le_refl 0) c6
 subst e3
 simp only [Int.toNat_zero, Nat.zero_mul, show ad.add 0 = ad by simp [Addr.add]] at hx0 hx1 hx2
 have e1 : ((l1.length : Int) == 2) = true := beq_iff_eq.mpr c2
 have e2 : ((v1.length : Int) == 1) = true := beq_iff_eq.mpr c5
 have e4 : (((rd_T31 v1 0).f1.length : Int) == 2) = true := beq_iff_eq.mpr c7
 have e5 : (((rd_T31 v1 0).f2.length : Int) == 1) = true := beq_iff_eq.mpr c8
 have e6 := eq_true c6
 have e7 := eq_true (show 0 < v1.length by omega)
 have e8 : decide (0 < (v1.length : Int)) = true := decide_eq_true c6
 have e9 : decide (0 < v1.length) = true := decide_eq_true (by omega)
 clear c2 c5 c6 c7 c8; go_wp2; go_ret
 exact ⟨rfl, HB.out⟩
end Go.Proofs.YtkedidjjhhjdbaaGreatDoor.Pr
end
section
set_option linter.unusedVariables false
set_option linter.unusedSimpArgs false
namespace Go.Proofs.YtkedidjjhhjdbaaGreatDoor.Pr
open Go.RowKit Go.Proofs.YtkedidjjhhjdbaaGreatDoorW.PrintWords Go.Proofs.YtkedidjjhhjdbaaGreatDoorW.PrintLast Go.Proofs.YtkedidjjhhjdbaaGreatDoorW.PrintMore
theorem drawn_trans {a b c : World} (h1 : Drawn0 a b) (h2 : Drawn0 b c) : Drawn0 a c := by
 obtain ⟨n, rfl⟩ := h2
 exact h1.step n
theorem C_drawn {α : Type} {d : Kd α} {w w' : World} {A : Option Addr} {n : Nat} {xs : List α} (h : d.C w A n xs) (hd : Drawn0 w w') : d.C w' A n xs := by
 obtain ⟨m, rfl⟩ := hd
 exact Kd.C_drewN h m
def belfryref11_Same.T6 : Bool × List (List Nat × List Nat) := (true, [([], []), ([], []), ([0, 1], [0, 1]), ([2], [2]), ([3], [3]), ([], []), ([], []), ([5, 6], [5, 6]), ([7], [7]), ([8], [8]), ([4, 9], [4, 9]), ([10], [10]), ([11], [11]), ([11], [11]), ([12, 13, 11], [11, 12, 13]), ([14, 11], [11, 14]), ([15, 11], [11, 15]), ([11], [11]), ([11], [11]), ([17, 18, 11], [11, 17, 18]), ([19, 11], [11, 19]), ([20, 11], [11, 20]), ([16, 21, 11], [11, 16, 21]), ([11, 22], [11, 22]), ([23, 11], [23]), ([24], [24]), ([24], [24]), ([25, 26, 24], [24, 25, 26]), ([27, 24], [24, 27]), ([28, 24], [24, 28]), ([24], [24]), ([24], [24]), ([30, 31, 24], [24, 30, 31]), ([32, 24], [24, 32]), ([33, 24], [24, 33]), ([29, 34, 24], [24, 29, 34]), ([24, 35], [24, 35]), ([36, 24], [36]), ([37], [37]), ([37], [37]), ([38, 39, 37], [37, 38, 39]), ([40, 37], [37, 40]), ([41, 37], [37, 41]), ([37], [37]), ([37], [37]), ([43, 44, 37], [37, 43, 44]), ([45, 37], [37, 45]), ([46, 37], [37, 46]), ([42, 47, 37, 37], [37, 42, 47]), ([48, 37], [37, 48]), ([37, 49], [37, 49]), ([50, 48], [50]), ([51], [51]), ([51], [51]), ([52, 53, 51], [51, 52, 53]), ([54, 51], [51, 54]), ([55, 51], [51, 55]), ([51], [51]), ([51], [51]), ([57, 58, 51], [51, 57, 58]), ([59, 51], [51, 59]), ([60, 51], [51, 60]), ([56, 61, 51, 51], [51, 56, 61]), ([62, 51], [51, 62]), ([51, 63], [51, 63])])
def belfryref11_Same.B6 : List Nat := [0, 0, 3, 7, 15, 0, 0, 96, 224, 480, 1023, 2047, 4095, 4095, 16383, 32767, 65535, 4095, 4095, 397311, 921599, 1970175, 4194303, 8388607, 16777215, 33554431, 33554431, 134217727, 268435455, 536870911, 33554431, 33554431, 3254779903, 7549747199, 16139681791, 34359738367, 68719476735, 137438953471, 274877906943, 274877906943, 1099511627775, 2199023255551, 4398046511103, 274877906943, 274877906943, 26663156973567, 61847529062399, 132216273240063, 281474976710655, 562949953421311, 1125899906842623, 2251799813685247, 4503599627370495, 4503599627370495, 18014398509481983, 36028797018963967, 72057594037927935, 4503599627370495, 4503599627370495, 436849163854938111, 1013309916158361599, 2166231420765208575, 4611686018427387903, 9223372036854775807, 18446744073709551615]
set_option maxRecDepth 100000 in
theorem belfryref11_Same.tab6 : rtab .any (opsOf Tryz.f14 6) = belfryref11_Same.T6 := by kernel_rfl
set_option maxRecDepth 100000 in
theorem belfryref11_Same.bits6 : waitsOk belfryref11_Same.T6.2 belfryref11_Same.B6 = true := by kernel_rfl
end Go.Proofs.YtkedidjjhhjdbaaGreatDoor.Pr
end
section
set_option linter.unusedVariables false
set_option linter.unusedSimpArgs false
namespace Go.Proofs.YtkedidjjhhjdbaaGreatDoor.Pr
open Go.RowKit Go.Proofs.YtkedidjjhhjdbaaGreatDoorW.PrintWords Go.Proofs.YtkedidjjhhjdbaaGreatDoorW.PrintLast Go.Proofs.YtkedidjjhhjdbaaGreatDoorW.PrintMore
def Wr (e sz lo hi : Nat) (W : World) (v : Value) : Prop := ∃ A m c, v = .slice A m c ∧ m ≤ c ∧ m ≤ 9223372036854775807 ∧ (m = 0 ∨ ∃ g cur, A = some ⟨g, 0, none⟩ ∧ lo ≤ g ∧ g < hi ∧ W.heap[g]? = some (.cells cur e (0, 0)) ∧ m * sz ≤ cur.size)
theorem Wr.set {e sz lo hi : Nat} {W : World} {v : Value} (h : Wr e sz lo hi W v) {g t : Nat} {cs : Array Value} (hb : W.heap[g]? = some (.cells cs t (0, 0))) (j : Nat) (u : Value) : Wr e sz lo hi (W.setCell ⟨g, j, none⟩ u) v := by
 obtain ⟨A, m, c, rfl, hc, hm, h⟩ := h
 refine ⟨A, m, c, rfl, hc, hm, ?_⟩
 rcases h with rfl | ⟨g1, cur, rfl, h1, h2, h3, h4⟩
 · exact .inl rfl
 by_cases hg : g1 = g; rotate_left
 · exact .inr ⟨g1, cur, rfl, h1, h2, blk_far h3 (by simpa using hg) u, h4⟩
 subst hg; rw [hb] at h3
 injection h3 with h3
 injection h3 with h5 h6
 subst h5; subst h6
 exact .inr ⟨g1, _, rfl, h1, h2, blk_set hb j u, by simpa using h4⟩
structure Spl (T st o1 o2 lo hi n : Nat) (f1 f2 : Nat → Value) (g : Nat) (W : World) : Prop where
  out : ∃ cur, W.heap[g]? = some (.cells cur T (0, 0)) ∧ ∀ i, i < n → cur[i * st + o1]? = some (f1 i) ∧ cur[i * st + o2]? = some (f2 i)
  in1 : ∀ i, i < n → Wr 33 3 lo hi W (f1 i)
  in2 : ∀ i, i < n → Wr 9 1 lo hi W (f2 i)
theorem Spl.set {T st o1 o2 lo hi n : Nat} {f1 f2 : Nat → Value} {g : Nat} {W : World} (h : Spl T st o1 o2 lo hi n f1 f2 g W) {g' t : Nat} {cs : Array Value} (hb : W.heap[g']? = some (.cells cs t (0, 0))) (ht : T ≠ t) (j : Nat) (u : Value) : Spl T st o1 o2 lo hi n f1 f2 g (W.setCell ⟨g', j, none⟩ u) := by
 obtain ⟨⟨cur, hc, hf⟩, h1, h2⟩ := h
 exact ⟨⟨cur, blk_far hc (blk_ne hc hb ht) u, hf⟩, fun i hi => (h1 i hi).set hb j u, fun i hi => (h2 i hi).set hb j u⟩
theorem Spl.drewN {T st o1 o2 lo hi n : Nat} {f1 f2 : Nat → Value} {g : Nat} {W : World} (h : Spl T st o1 o2 lo hi n f1 f2 g W) (m : Nat) : Spl T st o1 o2 lo hi n f1 f2 g (W.drewN m) := ⟨h.out, h.in1, h.in2⟩
structure Chg (lo hi : Nat) (W W' : World) : Prop where
  be : Below lo W W'
  up : ∀ k, hi ≤ k → W'.heap[k]? = W.heap[k]?
theorem Chg.refl (lo hi : Nat) (W : World) : Chg lo hi W W := ⟨Below.refl _ _, fun _ _ => rfl⟩
theorem Chg.set {lo hi : Nat} {W W' : World} (h : Chg lo hi W W') {g : Nat} (h1 : lo ≤ g) (h2 : g < hi) (j : Nat) (u : Value) : Chg lo hi W (W'.setCell ⟨g, j, none⟩ u) :=
 ⟨h.be.setCell h1 u, fun k hk => (Below.heap_setCell W' ⟨g, j, none⟩ u k (by show k ≠ g; omega)).trans (h.up k hk)⟩
theorem Wr.at {e sz lo hi : Nat} {W : World} {A : Option Addr} {m c : Nat} (h : Wr e sz lo hi W (.slice A m c)) (hs : 0 < sz) (k : Nat) (hk : k < m) : ∃ g cur u, A = some ⟨g, 0, none⟩ ∧ lo ≤ g ∧ g < hi ∧ W.heap[g]? = some (.cells cur e (0, 0)) ∧ W.cell? ⟨g, k * sz, none⟩ = some u ∧ W.frozen? ⟨g, k * sz, none⟩ = false := by
 obtain ⟨A1, m1, c1, e1, _, _, h⟩ := h
 injection e1 with e1 e2 e3
 subst e1; subst e2; subst e3
 rcases h with rfl | ⟨g, cur, rfl, h1, h2, h3, h4⟩
 · omega
 have hlt : k * sz < cur.size := by
  have : k * sz < m * sz := Nat.mul_lt_mul_of_pos_right hk hs
  omega
 exact ⟨g, cur, cur[k * sz], rfl, h1, h2, h3, (blk_cell h3 _).trans (Array.getElem?_eq_getElem hlt), blk_frozen h3 _⟩
end Go.Proofs.YtkedidjjhhjdbaaGreatDoor.Pr
end
section
set_option linter.unusedVariables false
set_option linter.unusedSimpArgs false
namespace Go.Proofs.YtkedidjjhhjdbaaGreatDoor.Pr
open Go.RowKit Go.Proofs.YtkedidjjhhjdbaaGreatDoorW.PrintWords Go.Proofs.YtkedidjjhhjdbaaGreatDoorW.PrintLast Go.Proofs.YtkedidjjhhjdbaaGreatDoorW.PrintMore
theorem Spl.later {T st o1 o2 lo hi n : Nat} {f1 f2 : Nat → Value} {g : Nat} {W W' : World} (h : Spl T st o1 o2 lo hi n f1 f2 g W) (hg : g < hi) (hb : Below hi W W') : Spl T st o1 o2 lo hi n f1 f2 g W' := by
 have hw : ∀ {e sz : Nat} {v : Value}, Wr e sz lo hi W v → Wr e sz lo hi W' v := by
  rintro e sz v ⟨A, m, c, rfl, hc, hm, h⟩
  refine ⟨A, m, c, rfl, hc, hm, ?_⟩
  rcases h with rfl | ⟨g1, cur, rfl, h1, h2, h3, h4⟩
  · exact .inl rfl
  exact .inr ⟨g1, cur, rfl, h1, h2, (hb.block g1 h2).trans h3, h4⟩
 obtain ⟨⟨cur, hc, hf⟩, h1, h2⟩ := h
 exact ⟨⟨cur, (hb.block g hg).trans hc, hf⟩, fun i hi => hw (h1 i hi), fun i hi => hw (h2 i hi)⟩
end Go.Proofs.YtkedidjjhhjdbaaGreatDoor.Pr
end
section
set_option linter.unusedVariables false
set_option linter.unusedSimpArgs false
namespace Go.Proofs.YtkedidjjhhjdbaaGreatDoor.Pr
open Go.RowKit Go.Proofs.YtkedidjjhhjdbaaGreatDoorW.PrintWords Go.Proofs.YtkedidjjhhjdbaaGreatDoorW.PrintLast Go.Proofs.YtkedidjjhhjdbaaGreatDoorW.PrintMore
theorem known_at : belfrylaw11_known.f 60 = some true := by kernel_rfl
theorem Ev.all {α β : Type} {f : α → Nat → Option β} {v : β} : ∀ l : List α, (∀ x ∈ l, Ev (f x) v) → ∃ K, ∀ k, K ≤ k → ∀ x ∈ l, f x k = some v
 | [], _ => ⟨0, fun _ _ x h => by cases h⟩
 | y :: l, h => by
  obtain ⟨K, hK⟩ := h y (List.mem_cons_self ..)
  obtain ⟨L, hL⟩ := Ev.all l (fun x hx => h x (List.mem_cons_of_mem _ hx))
  refine ⟨K + L, fun k hk x hx => ?_⟩
  rcases List.mem_cons.1 hx with rfl | hx
  · exact hK k (by omega)
  exact hL k (by omega) x hx
end Go.Proofs.YtkedidjjhhjdbaaGreatDoor.Pr
end
section
set_option linter.unusedVariables false
set_option linter.unusedSimpArgs false
namespace Go.Proofs.YtkedidjjhhjdbaaGreatDoor.Pr
open Go.RowKit Go.Proofs.YtkedidjjhhjdbaaGreatDoorW.PrintWords Go.Proofs.YtkedidjjhhjdbaaGreatDoorW.PrintLast Go.Proofs.YtkedidjjhhjdbaaGreatDoorW.PrintMore
def policy_Print.go (k : Nat) : List S46 → Int → List UInt8 → Option (ByteArray × Int × Int)
  | [], _, acc => some (⟨acc.toArray⟩, 0, 0)
  | x :: l, i, acc => (policy_Right.f k x.f0 x.f1 x.f2 x.f3 x.f4).bind fun why =>
    if why = 0 then (policy_line.f k x.f0 x.f1 x.f2 x.f3 x.f4).bind fun s => if acc.length + s.size < 140737488355000 then policy_Print.go k l (i + 1) (acc ++ s.data.toList ++ [10]) else none
    else some (⟨#[]⟩, why, i)
def policy_Print.f (k : Nat) (l : List S46) : Option (ByteArray × Int × Int) := if l.length > 32 then some (⟨#[]⟩, 7, 0) else policy_Print.go k l 0 []
structure PrI (w : World) (acc : List UInt8) (W : World) : Prop where
  bu : Lib.IsBuilder 76 5 w.heap.size w.heap.size (Lib.byteCells acc) W
  be : Below w.heap.size w W
theorem PrI.below {w W W' : World} {acc : List UInt8} (h : PrI w acc W) (hb : Below W.heap.size W W') : PrI w acc W' :=
 ⟨isBuilder_move h.bu (fun i _ hi => hb.block i hi), h.be.trans (hb.mono h.be.size)⟩
theorem PrI.wrote {w W W' : World} {acc : List UInt8} {s : ByteArray} (h : PrI w acc W) (hb : Lib.BuilderAt 76 5 w.heap.size w.heap.size (.pointer (some ⟨w.heap.size, 0, none⟩)) (Lib.byteCells acc ++ Lib.strCells s) W') (hB : Below w.heap.size W W') : PrI w (acc ++ s.data.toList) W' := by
 refine ⟨.inr ?_, h.be.trans hB⟩
 have e : Lib.byteCells (acc ++ s.data.toList) = Lib.byteCells acc ++ Lib.strCells s := by rw [Lib.strCells_eq]; exact List.map_append
 rw [e]; exact hb
theorem nl_data (s : ByteArray) : (s ++ (⟨#[10]⟩ : ByteArray)).data.toList = s.data.toList ++ [10] := by
 show (s ++ (⟨#[10]⟩ : ByteArray)).data.toList = _
 simp [ByteArray.data_append]
set_option maxHeartbeats 8000000 in
set_option maxRecDepth 100000 in
theorem policy_Print.calls (k : Nat) (A0 : Option Addr) (c0 : Nat) (l0 : List S46) (r1 : ByteArray) (r2 r3 : Int) (w : World) (hr0 : Kd.C k46 w A0 l0.length l0) (hc0 : l0.length ≤ c0) (h : policy_Print.f k l0 = some (r1, r2, r3))
  (he_ : EnvW w := by repeat (first | with_reducible assumption | with_reducible exact env_of (by with_reducible assumption) (by with_reducible assumption) | with_reducible exact env_out (by with_reducible assumption) | with_reducible apply env_alloc | with_reducible apply env_drewN | with_reducible apply env_drew | with_reducible refine env_set ?_ (by with_reducible assumption) (by with_reducible assumption))) :
  Calls Tryz.prog 16 #[.slice A0 l0.length c0] w fun e w' => e = .returned (.tuple #[.string r1, .int .i64 r2, .int .i64 r3]) ∧ Below w.heap.size w w' := by
 unfold policy_Print.f at h
 have hu46 := Tryz.underlying46; have HR0 := Aside0.mk hr0; have HE := Aside0.mk he_; clear hr0 he_; by_cases hl : l0.length > 32
 ·
  rw [if_pos hl] at h; cases h
  have e1 : decide (32 < (l0.length : Int)) = true := decide_eq_true (by omega)
  have e2 : decide (32 < l0.length) = true := decide_eq_true hl
  clear hl
  go_enter Tryz.func16, Tryz.ntmps16
  go_wp2; go_ret3
  exact ⟨rfl, Below.refl _ _⟩
 rw [if_neg hl] at h
 have e1 : decide (32 < (l0.length : Int)) = false := decide_eq_false (by omega)
 have e2 : decide (32 < l0.length) = false := decide_eq_false hl
 have HH := Aside0.mk h
 have hlb : (l0.length : Int) ≤ 32 := by omega
 have HI : Aside0 (PrI w [] (w.alloc (.cells #[.pointer none, .slice none 0 0] 76))) := ⟨⟨Lib.fresh_isBuilder 76 5 w, (Below.refl _ _).alloc (Nat.le_refl _) _⟩⟩
 clear h hl
 go_enter Tryz.func16, Tryz.ntmps16
 go_wp2
 go_loopw [14] (fun i wr => ∃ (j : Nat) (acc : List UInt8), j ≤ l0.length ∧ i = .int .i64 j ∧ Aside0 (policy_Print.go k (l0.drop j) j acc = some (r1, r2, r3)) ∧ Aside0 (PrI w acc wr)) (fun i _ => l0.length - (intOf i).toNat)
 case atStart => exact ⟨0, [], Nat.zero_le _, rfl, HH, HI⟩
 case round =>
  obtain ⟨j, acc, hj, rfl, HP, HV⟩ := hrel
  clear HH HI; by_cases hlt : j < l0.length; rotate_left
  ·
   have c9b0 : decide ((j : Int) < (l0.length : Int)) = false := decide_eq_false (by omega)
   have c9b1 : decide (j < l0.length) = false := decide_eq_false hlt
   have hp := HP.out; rw [List.drop_eq_nil_of_le (by omega), policy_Print.go] at hp; cases hp
   go_wp2_with fail
   refine (Tryz.Builder_String_any w.heap.size w.heap.size acc _ HV.out.bu HV.out.be.size).mono ?_
   rintro e w2 ⟨rfl, hB⟩
   have HB := Aside0.mk (HV.out.be.trans hB); clear hB
   go_wp2_with fail
   go_ret3
   exact ⟨rfl, HB.out⟩
  have c9b0 : decide ((j : Int) < (l0.length : Int)) = true := decide_eq_true (by omega)
  have c9b1 : decide (j < l0.length) = true := decide_eq_true hlt
  have p9 : (0 : Int) ≤ (j : Int) := by omega
  have q9 : (j : Int) < (l0.length : Int) := by omega
  obtain ⟨ad, A3, c3, A4, c4, e9, h0, h1, h2, h3, h4, l3, g3, l4, g4⟩ := at_T46 HR0.out (j : Int) p9 q9
  cases e9
  rw [Int.toNat_natCast] at h0 h1 h2 h3 h4
  have hx0 := (HV.out.be.cell (cell_place h0).2).trans h0; have hx1 := (HV.out.be.cell (cell_place h1).2).trans h1; have hx2 := (HV.out.be.cell (cell_place h2).2).trans h2; have hx3 := (HV.out.be.cell (cell_place h3).2).trans h3; have hx4 := (HV.out.be.cell (cell_place h4).2).trans h4; have HG3 := Aside0.mk g3; have HG4 := Aside0.mk g4; clear h0 h1 h2 h3 h4 g3 g4; replace p9 := eq_true p9; replace q9 := eq_true q9
  go_upto_region 7 with (fail)
  rw [List.drop_eq_getElem_cons hlt, show l0[j] = rd_T46 l0 (j : Int) by simp [rd_T46, List.getD, List.getElem?_eq_getElem hlt], policy_Print.go] at HP
  generalize rd_T46 l0 (j : Int) = x at *
  have HV1 := Aside0.mk (HV.out.below (below_alloc (Below.refl _ _) (.cells #[.bool x.f0, .int .i64 x.f1, .string x.f2, .slice A3 x.f3.length c3, .slice A4 x.f4.length c4] 46))); have BK := Aside0.mk (blk_new wr (.cells #[.bool x.f0, .int .i64 x.f1, .string x.f2, .slice A3 x.f3.length c3, .slice A4 x.f4.length c4] 46))
  generalize wr.alloc (.cells #[.bool x.f0, .int .i64 x.f1, .string x.f2, .slice A3 x.f3.length c3, .slice A4 x.f4.length c4] 46) = W1 at HV1 BK ⊢
  generalize wr.heap.size = g at BK ⊢
  clear HV hx0 hx1 hx2 hx3 hx4
  obtain ⟨why, hw, hp⟩ := Option.bind_eq_some_iff.mp HP.out
  have hx0 := (blk_cell BK.out 0).trans rfl; have hx1 := (blk_cell BK.out 1).trans rfl; have hx2 := (blk_cell BK.out 2).trans rfl; have hx3 := (blk_cell BK.out 3).trans rfl; have hx4 := (blk_cell BK.out 4).trans rfl; have HW := Aside0.mk hw; have HP1 := Aside0.mk hp; clear HP hw hp
  go_wp2_with fail
  refine (policy_Right.calls k x.f0 x.f1 x.f2 A3 c3 x.f3 A4 c4 x.f4 why _ (Kd.C_below HG3.out HV1.out.be) l3 (Kd.C_below HG4.out HV1.out.be) l4 HW.out (env_below HE.out HV1.out.be)).mono ?_
  rintro e w2 ⟨rfl, hbl⟩
  replace HV1 := Aside0.mk (HV1.out.below hbl)
  replace BK := Aside0.mk (blk_below BK.out hbl)
  clear hbl hx0 hx1 hx2 hx3 hx4; have hx0 := (blk_cell BK.out 0).trans rfl; have hx1 := (blk_cell BK.out 1).trans rfl; have hx2 := (blk_cell BK.out 2).trans rfl; have hx3 := (blk_cell BK.out 3).trans rfl; have hx4 := (blk_cell BK.out 4).trans rfl; have hp := HP1.out; clear HP1; by_cases d1 : why = 0; rotate_left
  ·
   rw [if_neg d1] at hp; cases hp
   have d2 : (r2 == 0) = false := beq_eq_false_iff_ne.mpr d1
   have d3 : (r2 != 0) = true := bne_iff_ne.mpr d1
   go_wp2_with fail
   go_ret3
   exact ⟨rfl, HV1.out.be⟩
  subst d1; rw [if_pos rfl] at hp
  obtain ⟨s, hs, hp⟩ := Option.bind_eq_some_iff.mp hp
  by_cases hz : acc.length + s.size < 140737488355000; rotate_left
  · rw [if_neg hz] at hp; cases hp
  rw [if_pos hz] at hp; have HS := Aside0.mk hs; have HP2 := Aside0.mk hp; clear hs hp
  go_wp2_with fail
  refine (policy_line.calls k x.f0 x.f1 x.f2 A3 c3 x.f3 A4 c4 x.f4 s _ (Kd.C_below HG3.out HV1.out.be) l3 (Kd.C_below HG4.out HV1.out.be) l4 HS.out).mono ?_
  rintro e w3 ⟨rfl, hbl⟩
  replace HV1 := Aside0.mk (HV1.out.below hbl)
  clear hbl hx0 hx1 hx2 hx3 hx4 BK
  have hsz : (s.size : Int) < 140737488355000 := by omega
  have z1 : (⟨#[10]⟩ : ByteArray).size = 1 := rfl
  go_wp2_with fail
  refine (Tryz.Builder_WriteString w.heap.size w.heap.size _ _ _ HV1.out.bu ?_ HV1.out.be.size).mono ?_
  ·
   rw [Lib.byteCells_length, ByteArray.size_append]
   show acc.length + (s.size + 1) ≤ _
   omega
  rintro e w4 ⟨rfl, hb4, hB4⟩
  have HV2 := Aside0.mk (HV1.out.wrote hb4 hB4); clear hb4 hB4 HV1
  go_wp2_with fail
  go_roundw
  case measure => simp [intOf]; omega
  case rel =>
   refine ⟨j + 1, acc ++ s.data.toList ++ [10], hlt, by simp, ⟨?_⟩, ⟨?_⟩⟩
   · exact HP2.out
   have h := HV2.out; rw [nl_data, ← List.append_assoc] at h; exact h
end Go.Proofs.YtkedidjjhhjdbaaGreatDoor.Pr
end
