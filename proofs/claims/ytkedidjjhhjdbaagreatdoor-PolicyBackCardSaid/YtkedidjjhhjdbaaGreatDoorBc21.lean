import Derived.Test.YtkedidjjhhjdbaaGreatDoorBc0
import Derived.Test.YtkedidjjhhjdbaaGreatDoorBc20
import Derived.Test.YtkedidjjhhjdbaaGreatDoorBc11
import Derived.Test.YtkedidjjhhjdbaaGreatDoorBc5
import Derived.Test.YtkedidjjhhjdbaaGreatDoorBc8
import Derived.Test.YtkedidjjhhjdbaaGreatDoorBc10
import Derived.Test.YtkedidjjhhjdbaaGreatDoorBc9
section
set_option linter.unusedVariables false
set_option linter.unusedSimpArgs false
namespace Go.Proofs.YtkedidjjhhjdbaaGreatDoor.Pr
open Go.RowKit Go.Proofs.YtkedidjjhhjdbaaGreatDoorW.PrintWords Go.Proofs.YtkedidjjhhjdbaaGreatDoorW.PrintLast Go.Proofs.YtkedidjjhhjdbaaGreatDoorW.PrintMore
set_option maxHeartbeats 8000000 in
set_option maxRecDepth 100000 in
theorem known.calls (k : Nat) (w : World) (h : belfrylaw11_known.f k = some true)
  (he_ : EnvW w := by repeat (first | with_reducible assumption | with_reducible exact env_of (by with_reducible assumption) (by with_reducible assumption) | with_reducible exact env_out (by with_reducible assumption) | with_reducible apply env_alloc | with_reducible apply env_drewN | with_reducible apply env_drew | with_reducible refine env_set ?_ (by with_reducible assumption) (by with_reducible assumption))) :
  Calls Tryz.prog 9 #[] w fun e w' => e = .returned (.bool true) ∧ Below w.heap.size w w' := by
 unfold belfrylaw11_known.f at h
 obtain ⟨⟨l1, p1, q1⟩, hp1, h1⟩ := Option.bind_eq_some_iff.mp h
 clear h
 obtain ⟨⟨l2, p2, q2⟩, hp2, h2⟩ := Option.bind_eq_some_iff.mp h1
 clear h1
 obtain ⟨v1, hv1, h3⟩ := Option.bind_eq_some_iff.mp h2
 clear h2
 obtain ⟨v2, hv2, h⟩ := Option.bind_eq_some_iff.mp h3
 clear h3
 simp only at hv1 hv2 h
 by_cases c1 : p1 = 0
 case neg => rw [if_neg c1] at h; simp at h
 rw [if_pos c1] at h; subst c1; by_cases c2 : (l1.length : Int) = 2
 case neg => rw [if_neg c2] at h; simp at h
 rw [if_pos c2] at h; by_cases c3 : p2 = 110
 case neg => rw [if_neg c3] at h; simp at h
 rw [if_pos c3] at h; subst c3; by_cases c4 : q2 = 1
 case neg => rw [if_neg c4] at h; simp at h
 rw [if_pos c4] at h; subst c4; by_cases c5 : (v1.length : Int) = 1
 case neg => rw [if_neg c5] at h; simp at h
 rw [if_pos c5] at h; by_cases c6 : 0 < (v1.length : Int)
 case neg => rw [if_neg c6] at h; simp at h
 rw [if_pos c6] at h; by_cases c7 : (((rd_T31 v1 0).f1).length : Int) = 2
 case neg => rw [if_neg c7] at h; simp at h
 rw [if_pos c7] at h; by_cases c8 : (((rd_T31 v1 0).f2).length : Int) = 1
 case neg => rw [if_neg c8] at h; simp at h
 rw [if_pos c8] at h
 have c9 : ((v2.length : Int) == 0) = true := by simpa using h
 have HP1 := Aside0.mk hp1; have HP2 := Aside0.mk hp2; have HV1 := Aside0.mk hv1; have HV2 := Aside0.mk hv2; have HE := Aside0.mk he_; have HB := Aside0.mk (Below.refl w.heap.size w); clear hp1 hp2 hv1 hv2 he_ h
 go_enter Tryz.func9, Tryz.ntmps9
 go_wp2_with fail
 refine (policy_Parse.calls k _ l1 0 q1 w HP1.out HE.out).mono ?_
 rintro e w1 ⟨u1, rfl, ho1, hb⟩
 have HO1 := Aside0.mk ho1
 replace HB := Aside0.mk hb
 clear ho1 hb HP1
 obtain ⟨A1, c1, rfl⟩ := Kd.S_slice HO1.out
 go_wp2_with fail
 refine (policy_Parse.calls k _ l2 110 1 w1 HP2.out (env_below HE.out HB.out)).mono ?_
 rintro e w2 ⟨u2, rfl, ho2, hb⟩
 have HO2 := Aside0.mk ho2
 replace HO1 := Aside0.mk (Kd.S_below HO1.out hb)
 replace HB := Aside0.mk (below_step HB.out hb)
 clear ho2 hb HP2
 obtain ⟨A2, c2', rfl⟩ := Kd.S_slice HO2.out
 go_wp2_with fail
 refine (policy_Views.calls k A1 c1 l1 _ _ 2 v1 w2 (Kd.S_reads' HO1.out).2.2 (Kd.S_reads' HO1.out).2.1 HV1.out (env_below HE.out HB.out)).mono ?_
 rintro e w3 ⟨u3, rfl, ho3, hb⟩
 have HO3 := Aside0.mk ho3
 replace HO1 := Aside0.mk (Kd.S_below HO1.out hb)
 replace HB := Aside0.mk (below_step HB.out hb)
 clear ho3 hb HV1 HO2
 obtain ⟨A3, c3, rfl⟩ := Kd.R_slice HO3.out
 go_wp2_with fail
 refine (policy_Views.calls k A1 c1 l1 _ _ 2 v2 w3 (Kd.S_reads' HO1.out).2.2 (Kd.S_reads' HO1.out).2.1 HV2.out (env_below HE.out HB.out)).mono ?_
 rintro e w4 ⟨u4, rfl, ho4, hb⟩
 have HO4 := Aside0.mk ho4
 replace HO3 := Aside0.mk (Kd.R_below HO3.out hb)
 replace HB := Aside0.mk (below_step HB.out hb)
 clear ho4 hb HV2 HO1
 obtain ⟨A4, c4, rfl⟩ := Kd.R_slice HO4.out
 obtain ⟨ad, B1, d1, B2, d2, e3, hx0, hx1, hx2, _⟩ := at_T31 (kV_C (Kd.R_reads' HO3.out).2.2) 0 (Int.le_refl 0) c6
 subst e3
 simp only [Int.toNat_zero, Nat.zero_mul, show ad.add 0 = ad by simp [Addr.add]] at hx0 hx1 hx2
 have e1 : ((l1.length : Int) == 2) = true := beq_iff_eq.mpr c2
 have e2 : ((v1.length : Int) == 1) = true := beq_iff_eq.mpr c5
 have e4 : (((rd_T31 v1 0).f1.length : Int) == 2) = true := beq_iff_eq.mpr c7
 have e5 : (((rd_T31 v1 0).f2.length : Int) == 1) = true := beq_iff_eq.mpr c8
 have e6 := eq_true c6
 have e7 := eq_true (show 0 < v1.length by omega)
 have e8 : decide (0 < (v1.length : Int)) = true := decide_eq_true c6
 have e9 : decide (0 < v1.length) = true := decide_eq_true (by omega)
 clear c2 c5 c6 c7 c8; go_wp2; go_ret
 exact ⟨rfl, HB.out⟩
end Go.Proofs.YtkedidjjhhjdbaaGreatDoor.Pr
end
section
set_option linter.unusedVariables false
set_option linter.unusedSimpArgs false
namespace Go.Proofs.YtkedidjjhhjdbaaGreatDoor.Pr
open Go.RowKit Go.Proofs.YtkedidjjhhjdbaaGreatDoorW.PrintWords Go.Proofs.YtkedidjjhhjdbaaGreatDoorW.PrintLast Go.Proofs.YtkedidjjhhjdbaaGreatDoorW.PrintMore
theorem drawn_trans {a b c : World} (h1 : Drawn0 a b) (h2 : Drawn0 b c) : Drawn0 a c := by
 obtain ⟨n, rfl⟩ := h2
 exact h1.step n
theorem C_drawn {α : Type} {d : Kd α} {w w' : World} {A : Option Addr} {n : Nat} {xs : List α} (h : d.C w A n xs) (hd : Drawn0 w w') : d.C w' A n xs := by
 obtain ⟨m, rfl⟩ := hd
 exact Kd.C_drewN h m
def belfryref11_Same.T6 : Bool × List (List Nat × List Nat) := (true, [([], []), ([], []), ([0, 1], [0, 1]), ([2], [2]), ([3], [3]), ([], []), ([], []), ([5, 6], [5, 6]), ([7], [7]), ([8], [8]), ([4, 9], [4, 9]), ([10], [10]), ([11], [11]), ([11], [11]), ([12, 13, 11], [11, 12, 13]), ([14, 11], [11, 14]), ([15, 11], [11, 15]), ([11], [11]), ([11], [11]), ([17, 18, 11], [11, 17, 18]), ([19, 11], [11, 19]), ([20, 11], [11, 20]), ([16, 21, 11], [11, 16, 21]), ([11, 22], [11, 22]), ([23, 11], [23]), ([24], [24]), ([24], [24]), ([25, 26, 24], [24, 25, 26]), ([27, 24], [24, 27]), ([28, 24], [24, 28]), ([24], [24]), ([24], [24]), ([30, 31, 24], [24, 30, 31]), ([32, 24], [24, 32]), ([33, 24], [24, 33]), ([29, 34, 24], [24, 29, 34]), ([24, 35], [24, 35]), ([36, 24], [36]), ([37], [37]), ([37], [37]), ([38, 39, 37], [37, 38, 39]), ([40, 37], [37, 40]), ([41, 37], [37, 41]), ([37], [37]), ([37], [37]), ([43, 44, 37], [37, 43, 44]), ([45, 37], [37, 45]), ([46, 37], [37, 46]), ([42, 47, 37, 37], [37, 42, 47]), ([48, 37], [37, 48]), ([37, 49], [37, 49]), ([50, 48], [50]), ([51], [51]), ([51], [51]), ([52, 53, 51], [51, 52, 53]), ([54, 51], [51, 54]), ([55, 51], [51, 55]), ([51], [51]), ([51], [51]), ([57, 58, 51], [51, 57, 58]), ([59, 51], [51, 59]), ([60, 51], [51, 60]), ([56, 61, 51, 51], [51, 56, 61]), ([62, 51], [51, 62]), ([51, 63], [51, 63])])
def belfryref11_Same.B6 : List Nat := [0, 0, 3, 7, 15, 0, 0, 96, 224, 480, 1023, 2047, 4095, 4095, 16383, 32767, 65535, 4095, 4095, 397311, 921599, 1970175, 4194303, 8388607, 16777215, 33554431, 33554431, 134217727, 268435455, 536870911, 33554431, 33554431, 3254779903, 7549747199, 16139681791, 34359738367, 68719476735, 137438953471, 274877906943, 274877906943, 1099511627775, 2199023255551, 4398046511103, 274877906943, 274877906943, 26663156973567, 61847529062399, 132216273240063, 281474976710655, 562949953421311, 1125899906842623, 2251799813685247, 4503599627370495, 4503599627370495, 18014398509481983, 36028797018963967, 72057594037927935, 4503599627370495, 4503599627370495, 436849163854938111, 1013309916158361599, 2166231420765208575, 4611686018427387903, 9223372036854775807, 18446744073709551615]
set_option maxRecDepth 100000 in
theorem belfryref11_Same.tab6 : rtab .any (opsOf Tryz.f14 6) = belfryref11_Same.T6 := by kernel_rfl
set_option maxRecDepth 100000 in
theorem belfryref11_Same.bits6 : waitsOk belfryref11_Same.T6.2 belfryref11_Same.B6 = true := by kernel_rfl
end Go.Proofs.YtkedidjjhhjdbaaGreatDoor.Pr
end
section
set_option linter.unusedVariables false
set_option linter.unusedSimpArgs false
namespace Go.Proofs.YtkedidjjhhjdbaaGreatDoor.Pr
open Go.RowKit Go.Proofs.YtkedidjjhhjdbaaGreatDoorW.PrintWords Go.Proofs.YtkedidjjhhjdbaaGreatDoorW.PrintLast Go.Proofs.YtkedidjjhhjdbaaGreatDoorW.PrintMore
def Wr (e sz lo hi : Nat) (W : World) (v : Value) : Prop := ∃ A m c, v = .slice A m c ∧ m ≤ c ∧ m ≤ 9223372036854775807 ∧ (m = 0 ∨ ∃ g cur, A = some ⟨g, 0, none⟩ ∧ lo ≤ g ∧ g < hi ∧ W.heap[g]? = some (.cells cur e (0, 0)) ∧ m * sz ≤ cur.size)
theorem Wr.set {e sz lo hi : Nat} {W : World} {v : Value} (h : Wr e sz lo hi W v) {g t : Nat} {cs : Array Value} (hb : W.heap[g]? = some (.cells cs t (0, 0))) (j : Nat) (u : Value) : Wr e sz lo hi (W.setCell ⟨g, j, none⟩ u) v := by
 obtain ⟨A, m, c, rfl, hc, hm, h⟩ := h
 refine ⟨A, m, c, rfl, hc, hm, ?_⟩
 rcases h with rfl | ⟨g1, cur, rfl, h1, h2, h3, h4⟩
 · exact .inl rfl
 by_cases hg : g1 = g; rotate_left
 · exact .inr ⟨g1, cur, rfl, h1, h2, blk_far h3 (by simpa using hg) u, h4⟩
 subst hg; rw [hb] at h3
 injection h3 with h3
 injection h3 with h5 h6
 subst h5; subst h6
 exact .inr ⟨g1, _, rfl, h1, h2, blk_set hb j u, by simpa using h4⟩
structure Spl (T st o1 o2 lo hi n : Nat) (f1 f2 : Nat → Value) (g : Nat) (W : World) : Prop where
  out : ∃ cur, W.heap[g]? = some (.cells cur T (0, 0)) ∧ ∀ i, i < n → cur[i * st + o1]? = some (f1 i) ∧ cur[i * st + o2]? = some (f2 i)
  in1 : ∀ i, i < n → Wr 33 3 lo hi W (f1 i)
  in2 : ∀ i, i < n → Wr 9 1 lo hi W (f2 i)
theorem Spl.set {T st o1 o2 lo hi n : Nat} {f1 f2 : Nat → Value} {g : Nat} {W : World} (h : Spl T st o1 o2 lo hi n f1 f2 g W) {g' t : Nat} {cs : Array Value} (hb : W.heap[g']? = some (.cells cs t (0, 0))) (ht : T ≠ t) (j : Nat) (u : Value) : Spl T st o1 o2 lo hi n f1 f2 g (W.setCell ⟨g', j, none⟩ u) := by
 obtain ⟨⟨cur, hc, hf⟩, h1, h2⟩ := h
 exact ⟨⟨cur, blk_far hc (blk_ne hc hb ht) u, hf⟩, fun i hi => (h1 i hi).set hb j u, fun i hi => (h2 i hi).set hb j u⟩
theorem Spl.drewN {T st o1 o2 lo hi n : Nat} {f1 f2 : Nat → Value} {g : Nat} {W : World} (h : Spl T st o1 o2 lo hi n f1 f2 g W) (m : Nat) : Spl T st o1 o2 lo hi n f1 f2 g (W.drewN m) := ⟨h.out, h.in1, h.in2⟩
structure Chg (lo hi : Nat) (W W' : World) : Prop where
  be : Below lo W W'
  up : ∀ k, hi ≤ k → W'.heap[k]? = W.heap[k]?
theorem Chg.refl (lo hi : Nat) (W : World) : Chg lo hi W W := ⟨Below.refl _ _, fun _ _ => rfl⟩
theorem Chg.set {lo hi : Nat} {W W' : World} (h : Chg lo hi W W') {g : Nat} (h1 : lo ≤ g) (h2 : g < hi) (j : Nat) (u : Value) : Chg lo hi W (W'.setCell ⟨g, j, none⟩ u) :=
 ⟨h.be.setCell h1 u, fun k hk => (Below.heap_setCell W' ⟨g, j, none⟩ u k (by show k ≠ g; omega)).trans (h.up k hk)⟩
theorem Wr.at {e sz lo hi : Nat} {W : World} {A : Option Addr} {m c : Nat} (h : Wr e sz lo hi W (.slice A m c)) (hs : 0 < sz) (k : Nat) (hk : k < m) : ∃ g cur u, A = some ⟨g, 0, none⟩ ∧ lo ≤ g ∧ g < hi ∧ W.heap[g]? = some (.cells cur e (0, 0)) ∧ W.cell? ⟨g, k * sz, none⟩ = some u ∧ W.frozen? ⟨g, k * sz, none⟩ = false := by
 obtain ⟨A1, m1, c1, e1, _, _, h⟩ := h
 injection e1 with e1 e2 e3
 subst e1; subst e2; subst e3
 rcases h with rfl | ⟨g, cur, rfl, h1, h2, h3, h4⟩
 · omega
 have hlt : k * sz < cur.size := by
  have : k * sz < m * sz := Nat.mul_lt_mul_of_pos_right hk hs
  omega
 exact ⟨g, cur, cur[k * sz], rfl, h1, h2, h3, (blk_cell h3 _).trans (Array.getElem?_eq_getElem hlt), blk_frozen h3 _⟩
end Go.Proofs.YtkedidjjhhjdbaaGreatDoor.Pr
end
section
set_option linter.unusedVariables false
set_option linter.unusedSimpArgs false
namespace Go.Proofs.YtkedidjjhhjdbaaGreatDoor.Pr
open Go.RowKit Go.Proofs.YtkedidjjhhjdbaaGreatDoorW.PrintWords Go.Proofs.YtkedidjjhhjdbaaGreatDoorW.PrintLast Go.Proofs.YtkedidjjhhjdbaaGreatDoorW.PrintMore
theorem Spl.later {T st o1 o2 lo hi n : Nat} {f1 f2 : Nat → Value} {g : Nat} {W W' : World} (h : Spl T st o1 o2 lo hi n f1 f2 g W) (hg : g < hi) (hb : Below hi W W') : Spl T st o1 o2 lo hi n f1 f2 g W' := by
 have hw : ∀ {e sz : Nat} {v : Value}, Wr e sz lo hi W v → Wr e sz lo hi W' v := by
  rintro e sz v ⟨A, m, c, rfl, hc, hm, h⟩
  refine ⟨A, m, c, rfl, hc, hm, ?_⟩
  rcases h with rfl | ⟨g1, cur, rfl, h1, h2, h3, h4⟩
  · exact .inl rfl
  exact .inr ⟨g1, cur, rfl, h1, h2, (hb.block g1 h2).trans h3, h4⟩
 obtain ⟨⟨cur, hc, hf⟩, h1, h2⟩ := h
 exact ⟨⟨cur, (hb.block g hg).trans hc, hf⟩, fun i hi => hw (h1 i hi), fun i hi => hw (h2 i hi)⟩
end Go.Proofs.YtkedidjjhhjdbaaGreatDoor.Pr
end
section
set_option linter.unusedVariables false
set_option linter.unusedSimpArgs false
namespace Go.Proofs.YtkedidjjhhjdbaaGreatDoor.Pr
open Go.RowKit Go.Proofs.YtkedidjjhhjdbaaGreatDoorW.PrintWords Go.Proofs.YtkedidjjhhjdbaaGreatDoorW.PrintLast Go.Proofs.YtkedidjjhhjdbaaGreatDoorW.PrintMore
theorem known_at : belfrylaw11_known.f 60 = some true := by kernel_rfl
theorem Ev.all {α β : Type} {f : α → Nat → Option β} {v : β} : ∀ l : List α, (∀ x ∈ l, Ev (f x) v) → ∃ K, ∀ k, K ≤ k → ∀ x ∈ l, f x k = some v
 | [], _ => ⟨0, fun _ _ x h => by cases h⟩
 | y :: l, h => by
  obtain ⟨K, hK⟩ := h y (List.mem_cons_self ..)
  obtain ⟨L, hL⟩ := Ev.all l (fun x hx => h x (List.mem_cons_of_mem _ hx))
  refine ⟨K + L, fun k hk x hx => ?_⟩
  rcases List.mem_cons.1 hx with rfl | hx
  · exact hK k (by omega)
  exact hL k (by omega) x hx
end Go.Proofs.YtkedidjjhhjdbaaGreatDoor.Pr
end
