import Derived.Test.YtkedidjjhhjdbaaGreatDoorBc0
import Derived.Test.YtkedidjjhhjdbaaGreatDoorBc8
import Derived.Lib.SliceRun
import Derived.Test.YtkedidjjhhjdbaaGreatDoorBc7
import Derived.Test.YtkedidjjhhjdbaaGreatDoorBc5
section
set_option linter.unusedVariables false
set_option linter.unusedSimpArgs false
namespace Go.Proofs.YtkedidjjhhjdbaaGreatDoor.Pr
open Go.RowKit Go.Proofs.YtkedidjjhhjdbaaGreatDoorW.PrintWords Go.Proofs.YtkedidjjhhjdbaaGreatDoorW.PrintLast Go.Proofs.YtkedidjjhhjdbaaGreatDoorW.PrintMore
attribute [local go_sem high] eqA33
def eqM (x y : S33) : Bool := x.f0 == y.f0 && (x.f1.toList == y.f1.toList && (x.f2.toList == y.f2.toList))
def ddFrom : S33 → List S33 → List S33
  | _, [] => []
  | p, x :: l => if eqM x p then ddFrom x l else x :: ddFrom x l
def dd : List S33 → List S33
  | [] => []
  | x :: l => x :: ddFrom x l
theorem drop_at54 (l : List S33) (i : Nat) (h : i < l.length) : l.drop i = rd_T33 l (i : Int) :: l.drop (i + 1) := by
 rw [List.drop_eq_getElem_cons h]; simp [rd_T33, h]
theorem take_at54 (l : List S33) (i : Nat) (h : i < l.length) : l.take (i + 1) = l.take i ++ [rd_T33 l (i : Int)] := by
 rw [List.take_succ_eq_append_getElem h]; simp [rd_T33, h]
section
variable {w : World} {base g n cap : Nat} {ok : Nat → Prop} {xs : List S33}
theorem cells54 (h : Kd.R k33 33 w base ok (.slice (some ⟨g, 0, none⟩) n cap) xs) (i : Nat) (hi : i < n) :
  (w.cell? ⟨g, i * 3, none⟩ = some (.int .i64 (rd_T33 xs (i : Int)).f0) ∧ w.cell? ⟨g, i * 3 + 1, none⟩ = some (.string (rd_T33 xs (i : Int)).f1) ∧ w.cell? ⟨g, i * 3 + 2, none⟩ = some (.string (rd_T33 xs (i : Int)).f2)) ∧
  w.frozen? ⟨g, i * 3, none⟩ = false ∧ w.frozen? ⟨g, i * 3 + 1, none⟩ = false ∧ w.frozen? ⟨g, i * 3 + 2, none⟩ = false := by
 obtain ⟨c, hcl, hM, hcc, hfr⟩ := Kd.R_elem h z33 (i : Int) (by omega) (by omega)
 obtain rfl := k33_openM hM
 exact ⟨⟨hcc 0 _ rfl, hcc 1 _ rfl, hcc 2 _ rfl⟩, hfr 0, hfr 1, hfr 2⟩
theorem put54 (h : Kd.R k33 33 w base ok (.slice (some ⟨g, 0, none⟩) n cap) xs) (i : Nat) (hi : i < n) (x : S33) :
  Kd.R k33 33 (((w.setCell ⟨g, i * 3, none⟩ (.int .i64 x.f0)).setCell ⟨g, i * 3 + 1, none⟩ (.string x.f1)).setCell ⟨g, i * 3 + 2, none⟩ (.string x.f2)) base ok (.slice (some ⟨g, 0, none⟩) n cap) (xs.set i x) ∧
  w.grownBy (((w.setCell ⟨g, i * 3, none⟩ (.int .i64 x.f0)).setCell ⟨g, i * 3 + 1, none⟩ (.string x.f1)).setCell ⟨g, i * 3 + 2, none⟩ (.string x.f2)) (some g) := by
 obtain ⟨c, hcl, hM, hcc, hfr⟩ := Kd.R_elem h z33 (i : Int) (by omega) (by omega)
 exact Kd.R_seg h (i : Int) (by omega) (by omega) (seg := [.int .i64 x.f0, .string x.f1, .string x.f2]) (j := 0) hcl hcc (show 3 ≤ 3 from by decide) (x' := x) (okp := fun k => ok k ∧ k ≠ g)
  (by obtain rfl := k33_openM hM; exact k33_mkM _ _ _ x) (fun _ hk => hk)
theorem clear54 (h : Kd.R k33 33 w base ok (.slice (some ⟨g, 0, none⟩) n cap) xs) (k c : Nat) (hk : k < n) :
  ∃ w', (∀ ty, (Builtin.clear_ #[28] ty #[.slice (some ⟨g, k * 3, none⟩) (n - k) c]).run Tryz.prog w = .ok (.tuple #[]) w') ∧ Kd.R k33 33 w' base ok (.slice (some ⟨g, 0, none⟩) k cap) (xs.take k) ∧ w.grownBy w' (some g) := by
 have h' := Kd.R_take h (m := k) (by have := (Kd.R_reads' h).1; omega)
 obtain ⟨hok, ho⟩ := flat33.R h
 obtain ⟨hok', ho'⟩ := flat33.R h'
 rcases ho.2 with ⟨hv, _⟩ | ⟨g1, cap1, cur, hv, hb, hh, hnc, hcm, hcs, ht⟩
 · cases hv
 injection hv with h1 h2 h3
 injection h1 with h1
 injection h1 with h1
 subst h1; subst h2; subst h3
 have hd : k33.sz = 3 := rfl
 rw [hd] at hcs
 have hz : ∀ w, (zeroValue 33).run Tryz.prog w = .ok (.agg #[.int .i64 0, .string ⟨#[]⟩, .string ⟨#[]⟩]) w := fun w => by kernel_rfl
 have hce : (Value.agg #[.int .i64 0, .string ⟨#[]⟩, .string ⟨#[]⟩]).cells = #[.int .i64 0, .string ⟨#[]⟩, .string ⟨#[]⟩] := by kernel_rfl
 have hlen : (Builtin.zeroCells #[.int .i64 0, .string ⟨#[]⟩, .string ⟨#[]⟩] (xs.length - k)).toList.length = (xs.length - k) * 3 := by simp [Builtin.zeroCells]
 have hone : ∀ v ∈ (Builtin.zeroCells #[.int .i64 0, .string ⟨#[]⟩, .string ⟨#[]⟩] (xs.length - k)).toList, v.oneCell' = true := by
  intro v hv
  simp only [Builtin.zeroCells, Array.toList_map, List.mem_map] at hv
  obtain ⟨i, _, rfl⟩ := hv
  have hi : i % 3 < 3 := Nat.mod_lt _ (by decide)
  have : i % 3 = 0 ∨ i % 3 = 1 ∨ i % 3 = 2 := by omega
  rcases this with e | e | e <;> simp [e, Value.oneCell']
 generalize hZ : (Builtin.zeroCells #[.int .i64 0, .string ⟨#[]⟩, .string ⟨#[]⟩] (xs.length - k)).toList = Z at hlen hone
 have hfit : k * 3 + Z.length ≤ cur.size := by rw [hlen, hcs, ← Nat.add_mul]; exact Nat.mul_le_mul_right 3 (by omega)
 have hst := run_storeCells_cells (P := Tryz.prog) g (k * 3) Z 0 w (fun j hj => by rw [cell_of_row w g _ cur 33 (0, 0) hh]; simp; omega) (fun j _ => blk_frozen hh _) hone
 simp only [Nat.add_zero] at hst
 obtain ⟨m, hm⟩ : ∃ m, xs.length - k = m + 1 := ⟨xs.length - k - 1, by omega⟩
 refine ⟨w.setCells g (k * 3) Z, fun ty => ?_, ?_, ?_⟩
 ·
  rw [hm] at hZ ⊢
  simp [Builtin.clear_, run_underlying Tryz.underlying28, hz, hce, hZ, hst]
 rotate_left
 ·
  obtain ⟨s1, s2, s3, s4⟩ := setCells_same g Z (k * 3) w
  exact ⟨s1, s2, s3, by rw [s4]; exact Nat.le_refl _, fun q _ hq => setCells_far Z _ q (fun he => hq (by rw [he]))⟩
 obtain ⟨cur', h3, h4, h5⟩ := setCells_row Z (k * 3) w cur hh hfit
 refine flat33.R' hok' ⟨ho'.1, .inr ⟨g, cap, cur', by simp; omega, hb, h3, by simp; omega, hcm, by rw [h4, hcs, hd], ?_⟩⟩
 rcases ho'.2 with ⟨hv, _⟩ | ⟨g1, cap1, cur1, hv, _, hh1, _, _, _, ht1⟩
 · cases hv
 injection hv with h1 h2 h3
 injection h1 with h1
 injection h1 with h1
 subst h1; rw [hh] at hh1
 injection hh1 with hh1
 injection hh1 with hh1
 subst hh1; rw [← ht1, hd]
 have hk' : (xs.take k).length = k := by simp; omega
 rw [hk', h5, List.append_assoc, List.take_append_of_le_length (by simp; omega), List.take_take, Nat.min_self]
end
end Go.Proofs.YtkedidjjhhjdbaaGreatDoor.Pr
end
section
set_option linter.unusedVariables false
set_option linter.unusedSimpArgs false
namespace Go.Proofs.YtkedidjjhhjdbaaGreatDoor.Pr
open Go.RowKit Go.Proofs.YtkedidjjhhjdbaaGreatDoorW.PrintWords Go.Proofs.YtkedidjjhhjdbaaGreatDoorW.PrintLast Go.Proofs.YtkedidjjhhjdbaaGreatDoorW.PrintMore
theorem dd_short : ∀ l : List S33, l.length < 2 → dd l = l
 | [], _ => rfl
 | [x], _ => rfl
 | _ :: _ :: l, h => absurd h (by simp)
theorem rd_eq54 {d l : List S33} {i : Nat} (h : d[i]? = l[i]?) : rd_T33 d (i : Int) = rd_T33 l (i : Int) := by
 simp [rd_T33, List.getD_eq_getElem?_getD, h]
theorem drop_step54 {d l : List S33} {m kk : Nat} (u : S33) (h : d.drop m = l.drop m) (hk : kk ≤ m) : (d.set kk u).drop (m + 1) = l.drop (m + 1) := by
 rw [List.drop_set_of_lt (by omega)]
 have := congrArg (List.drop 1) h
 simp only [List.drop_drop] at this
 exact this
theorem below_own {w0 w w' : World} {g : Nat} (h : Below w0.heap.size w0 w) (hg : w.grownBy w' (some g)) (hb : w0.heap.size ≤ g) : Below w0.heap.size w0 w' :=
 h.grown hg h.size (fun k hk => by cases hk; exact hb)
theorem dd_start (l : List S33) (h : 1 ≤ l.length) : l.take 1 ++ ddFrom (rd_T33 l ((1 - 1 : Nat) : Int)) (l.drop 1) = dd l := by
 cases l with
 | nil => simp at h
 | cons x l => rfl
theorem dd_next (l : List S33) (k : Nat) (hk : k < l.length) (m : List S33) (p : S33) : m ++ ddFrom p (l.drop k) = if eqM (rd_T33 l (k : Int)) p then m ++ ddFrom (rd_T33 l (k : Int)) (l.drop (k + 1)) else (m ++ [rd_T33 l (k : Int)]) ++ ddFrom (rd_T33 l (k : Int)) (l.drop (k + 1)) := by
 rw [drop_at54 l k hk, ddFrom]
 split <;> simp
theorem eqM_run {x y : S33} {b : Bool} (h : eqM x y = b) : ∀ (d : Nat) (W : World), (Op.equalIn (d + 2) 33 (.agg #[.int .i64 x.f0, .string x.f1, .string x.f2]) (.agg #[.int .i64 y.f0, .string y.f1, .string y.f2])).run Tryz.prog W = .ok b W :=
 fun d W => by rw [eqA33]; rw [← h]; rfl
set_option maxHeartbeats 4000000 in
set_option maxRecDepth 100000 in
theorem slices_Compact_M.calls (P0_ : Nat → Prop) (u9000_ : Value) (l0 : List S33) (w0 w : World) (hB : Below w0.heap.size w0 w) (ho0 : Kd.R k33 33 w w0.heap.size P0_ u9000_ l0) (hl : l0.length < 4611686018427387904) :
  Calls Tryz.prog 66 #[u9000_] w fun e w' => ∃ v0_ : Value, e = .returned v0_ ∧ Kd.R k33 33 w' w0.heap.size P0_ v0_ (dd l0) ∧ Below w0.heap.size w0 w' := by
 have hu54 := Tryz.underlying33; have hu48 := Tryz.underlying28; by_cases h2 : l0.length < 2
 ·
  obtain ⟨A, c, rfl⟩ := Kd.R_slice ho0
  have HO := Aside0.mk ho0; have HB := Aside0.mk hB; clear ho0 hB
  go_enter Tryz.func66, Tryz.ntmps66
  go_wp2; go_ret
  exact ⟨_, rfl, by rw [dd_short l0 h2]; exact HO.out, HB.out⟩
 obtain ⟨g, cap, rfl, hbg, hgl, _⟩ := Kd.R_form ho0 (by omega)
 have hcap := (Kd.R_reads' ho0).2.1; have HO := Aside0.mk ho0; have HB := Aside0.mk hB; have HG := Aside0.mk hbg; clear ho0 hB hbg hgl
 go_enter Tryz.func66, Tryz.ntmps66
 go_wp2
 go_loopg [3] l0.length (fun gk s3 wr => ∃ k q : Nat, 1 ≤ k ∧ k ≤ l0.length ∧ l0.length - k ≤ gk ∧ s3 = .int .i64 k ∧ wr = w.drewN q ∧ Aside0 (l0.take k ++ ddFrom (rd_T33 l0 ((k - 1 : Nat) : Int)) (l0.drop k) = dd l0))
 case atStart => exact ⟨1, 0, Nat.le_refl _, by omega, by omega, rfl, rfl, ⟨dd_start l0 (by omega)⟩⟩
 case round =>
  obtain ⟨k, q, hk1, hk, hg, rfl, rfl, HA⟩ := hrel
  by_cases hlt : k < l0.length; rotate_left
  ·
   have : k = l0.length := by omega
   subst this; go_wp2; go_ret
   exact ⟨_, rfl, by have := HA.out; simp [ddFrom] at this; rw [← this]; exact Kd.R_drewN HO.out _, pw_below_drewN HB.out _⟩
  obtain ⟨⟨a0, a1, a2⟩, f0, f1, f2⟩ := cells54 HO.out k hlt
  obtain ⟨⟨b0, b1, b2⟩, -, -, -⟩ := cells54 HO.out (k - 1) (by omega)
  have HE := HA.out; rw [dd_next l0 k hlt] at HE; have HX := Aside0.mk (show rd_T33 l0 ((k + 1 - 1 : Nat) : Int) = rd_T33 l0 (k : Int) from rfl)
  generalize hx : rd_T33 l0 (k : Int) = x at a0 a1 a2 HE HX
  generalize hy : rd_T33 l0 ((k - 1 : Nat) : Int) = y at b0 b1 b2 HE
  have HX0 := Aside0.mk hx; clear hx hy HA f0 f1 f2
  cases hdup : eqM x y with
  | true =>
   have he := eqM_run hdup; rw [hdup, if_pos rfl] at HE; have HE' := Aside0.mk HE; clear hdup HE
   go_wp2_with fail
   go_quiet (fail)
   go_wp2; have HS := Aside0.mk (And.intro (Kd.R_drewN HO.out (q + nq)) (pw_below_drewN HB.out (q + nq))); clear a0 a1 a2 b0 b1 b2 he
   go_loopg [3, 5] l0.length (fun gk s3 s5 wr => ∃ (kk k2 : Nat) (d : List S33), s3 = .int .i64 kk ∧ s5 = .int .i64 k2 ∧ 1 ≤ k2 ∧ k + k2 ≤ l0.length ∧ l0.length - (k + k2) ≤ gk ∧ k ≤ kk ∧ kk + 1 ≤ k + k2 ∧ Aside0 (Kd.R k33 33 wr w0.heap.size P0_ (.slice (some ⟨g, 0, none⟩) l0.length cap) d) ∧ Aside0 (Below w0.heap.size w0 wr) ∧ Aside0 (d.length = l0.length ∧ d.drop (k + k2 - 1) = l0.drop (k + k2 - 1) ∧ d.take kk ++ ddFrom (rd_T33 l0 ((k + k2 - 1 : Nat) : Int)) (l0.drop (k + k2)) = dd l0))
   case atStart => exact ⟨k, 1, l0, rfl, rfl, Nat.le_refl _, by omega, by omega, Nat.le_refl _, Nat.le_refl _, ⟨HS.out.1⟩, ⟨HS.out.2⟩, ⟨rfl, rfl, by rw [HX.out]; exact HE'.out⟩⟩
   case round =>
    obtain ⟨kk, k2, d, rfl, rfl, h1, hle, hg2, hkk, hkk2, HR, HBB, HD⟩ := hrel
    by_cases hlt2 : k + k2 < l0.length; rotate_left
    ·
     have hend : k + k2 = l0.length := by omega
     obtain ⟨wz, hz, hRz, hgz⟩ := clear54 HR.out kk (cap - kk) (by omega)
     have HZ := Aside0.mk (And.intro hRz hgz); clear hRz hgz
     have HDD := Aside0.mk (show d.take kk = dd l0 from by have := HD.out.2.2; rw [hend, List.drop_of_length_le (Nat.le_refl _), ddFrom, List.append_nil] at this; exact this)
     go_wp2; go_ret
     exact ⟨_, rfl, by rw [← HDD.out]; exact HZ.out.1, below_own HBB.out HZ.out.2 HG.out⟩
    obtain ⟨⟨a0, a1, a2⟩, -, -, -⟩ := cells54 HR.out (k + k2) hlt2
    obtain ⟨⟨b0, b1, b2⟩, -, -, -⟩ := cells54 HR.out (k + k2 - 1) (by omega)
    obtain ⟨⟨c0, c1, c2⟩, f0, f1, f2⟩ := cells54 HR.out kk (by omega)
    have e1 : rd_T33 d ((k + k2 : Nat) : Int) = rd_T33 l0 ((k + k2 : Nat) : Int) := by
     have := congrArg (fun m => m[1]?) HD.out.2.1
     simp only [List.getElem?_drop] at this
     rw [show k + k2 - 1 + 1 = k + k2 by omega] at this
     exact rd_eq54 this
    have e2 : rd_T33 d ((k + k2 - 1 : Nat) : Int) = rd_T33 l0 ((k + k2 - 1 : Nat) : Int) := by
     have := congrArg (fun m => m[0]?) HD.out.2.1
     simp only [List.getElem?_drop, Nat.add_zero] at this
     exact rd_eq54 this
    rw [e1, show (k + k2) * 3 = k * 3 + k2 * 3 by omega] at a0 a1 a2
    rw [e2, show (k + k2 - 1) * 3 = k * 3 + (k2 - 1) * 3 by omega] at b0 b1 b2
    have HE := HD.out.2.2; rw [dd_next l0 (k + k2) hlt2] at HE; clear e1 e2
    generalize hx : rd_T33 l0 ((k + k2 : Nat) : Int) = u at a0 a1 a2 HE
    generalize hy : rd_T33 l0 ((k + k2 - 1 : Nat) : Int) = v at b0 b1 b2 HE
    have HX2 := Aside0.mk hx; clear hx hy
    cases hdup : eqM u v with
    | true =>
     have he := eqM_run hdup; rw [hdup, if_pos rfl] at HE; have HE2 := Aside0.mk HE; clear hdup HE
     go_wp2_with fail
     go_quiet (fail)
     go_wp2
     go_roundg (l0.length - (k + (k2 + 1)))
     case measure => omega
     case rel => exact ⟨kk, k2 + 1, d, rfl, by go_num, by omega, by omega, Nat.le_refl _, by omega, by omega, ⟨Kd.R_drewN HR.out _⟩, ⟨pw_below_drewN HBB.out _⟩, ⟨HD.out.1, (by have := congrArg (List.drop 1) HD.out.2.1; simp only [List.drop_drop] at this; rw [show k + k2 - 1 + 1 = k + (k2 + 1) - 1 by omega] at this; exact this), (by have := HE2.out; rw [← HX2.out] at this; exact this)⟩⟩
    | false =>
     have he := eqM_run hdup; rw [hdup, if_neg (by simp)] at HE; have HE2 := Aside0.mk HE; clear hdup HE
     go_wp2_with fail
     go_quiet (fail)
     have HP := Aside0.mk (put54 (Kd.R_drewN HR.out nq) kk (by omega) u); go_wp2
     go_roundg (l0.length - (k + (k2 + 1)))
     case measure => omega
     case rel => exact ⟨kk + 1, k2 + 1, d.set kk u, by go_num, by go_num, by omega, by omega, Nat.le_refl _, by omega, by omega, ⟨HP.out.1⟩, ⟨below_own (pw_below_drewN HBB.out nq) HP.out.2 HG.out⟩, ⟨by rw [List.length_set]; exact HD.out.1, (by rw [show k + (k2 + 1) - 1 = k + k2 - 1 + 1 by omega]; exact drop_step54 u HD.out.2.1 (by omega)), (by have := HE2.out; rw [← HX2.out] at this ⊢; rw [List.take_succ_eq_append_getElem (by rw [List.length_set, HD.out.1]; omega), List.take_set_of_le (Nat.le_refl _), List.getElem_set_self]; exact this)⟩⟩
  | false =>
   have he := eqM_run hdup; rw [hdup, if_neg (by simp)] at HE; have HE' := Aside0.mk HE; clear hdup HE
   go_wp2_with fail
   go_quiet (fail)
   go_wp2
   go_roundg (l0.length - (k + 1))
   case measure => omega
   case rel => exact ⟨k + 1, _, by omega, by omega, Nat.le_refl _, by go_num, rfl, ⟨by rw [take_at54 l0 k hlt, HX.out, HX0.out]; exact HE'.out⟩⟩
end Go.Proofs.YtkedidjjhhjdbaaGreatDoor.Pr
end
section
set_option linter.unusedVariables false
set_option linter.unusedSimpArgs false
namespace Go.Proofs.YtkedidjjhhjdbaaGreatDoor.Pr
open Go.RowKit Go.Proofs.YtkedidjjhhjdbaaGreatDoorW.PrintWords Go.Proofs.YtkedidjjhhjdbaaGreatDoorW.PrintLast Go.Proofs.YtkedidjjhhjdbaaGreatDoorW.PrintMore
set_option maxHeartbeats 1000000 in
set_option maxRecDepth 100000 in
theorem slices_Clip_M.calls (A : Option Addr) (n c : Nat) (w : World) (hn : n ≤ c) (hc : c ≤ maxLen) (hA : A = none → n = 0 ∧ c = 0) :
  Calls Tryz.prog 67 #[.slice A n c] w fun e w' => e = .returned (.slice A n n) ∧ w' = w := by
 have hu48 := Tryz.underlying28
 unfold maxLen at hc
 cases A with
 | none =>
  obtain ⟨rfl, rfl⟩ := hA rfl
  go_enter Tryz.func67, Tryz.ntmps67
  go_wp2; go_ret
  exact ⟨rfl, rfl⟩
 | some a =>
  clear hA
  go_enter Tryz.func67, Tryz.ntmps67
  go_wp2; go_ret
  exact ⟨rfl, rfl⟩
theorem cell_new9 (w : World) (vs : Array Value) (t : TypeId) (j : Nat) (v : Value) (h : vs[j]? = some v) : (w.alloc (.cells vs t)).cell? ⟨w.heap.size, j, none⟩ = some v := by
 rw [World.cell?_alloc_at vs t w.heap.size j rfl]; exact h
theorem R_cap54 {w : World} {base : Nat} {ok : Nat → Prop} {A : Option Addr} {n c : Nat} {xs : List S33} (h : Kd.R k33 33 w base ok (.slice A n c) xs) : c ≤ maxLen ∧ (A = none → n = 0 ∧ c = 0) := by
 obtain ⟨_, ho⟩ := flat33.R h
 rcases ho.2 with ⟨hv, _⟩ | ⟨g, cap, cur, hv, _, _, _, hcm, _⟩
 rotate_left
 ·
  injection hv with h1 h2 h3
  subst h1; subst h3
  exact ⟨hcm, fun e => by cases e⟩
 injection hv with h1 h2 h3
 subst h1; subst h2; subst h3
 exact ⟨Nat.zero_le _, fun _ => ⟨rfl, rfl⟩⟩
def attr_Both.f (k : Nat) (l0 l1 : List S33) : Option (List S33 × Int) :=
  if (l0.length + l1.length) * 40 ≤ 140737488355328 then (attr_wrong.f k (l0 ++ l1)).bind fun why => if ((dd (sorted33 (l0 ++ l1))).length : Int) > 8 then some ([], 7) else if why = 0 then some (dd (sorted33 (l0 ++ l1)), 0) else some ([], why) else none
theorem dd_len : ∀ l : List S33, (dd l).length ≤ l.length := by
 have h : ∀ (l : List S33) (p : S33), (ddFrom p l).length ≤ l.length := by
  intro l
  induction l with
  | nil => intro p; simp [ddFrom]
  | cons x l ih =>
   intro p; rw [ddFrom]
   split
   · have := ih x; simp; omega
   have := ih x; simp; omega
 intro l
 cases l with
 | nil => simp [dd]
 | cons x l => rw [dd]; have := h l x; simp; omega
set_option maxHeartbeats 4000000 in
set_option maxRecDepth 100000 in
theorem attr_Both.calls (k : Nat) (A0 : Option Addr) (c0 : Nat) (l0 : List S33) (A1 : Option Addr) (c1 : Nat) (l1 : List S33) (r1 : List S33) (r2 : Int) (w : World) (hr0 : Kd.C k33 w A0 l0.length l0) (hc0 : l0.length ≤ c0) (hr1 : Kd.C k33 w A1 l1.length l1) (hc1 : l1.length ≤ c1) (h : attr_Both.f k l0 l1 = some (r1, r2)) (he_ : EnvW w := by repeat (first | with_reducible assumption | with_reducible exact env_of (by with_reducible assumption) (by with_reducible assumption) | with_reducible exact env_out (by with_reducible assumption) | with_reducible apply env_alloc | with_reducible apply env_drewN | with_reducible apply env_drew | with_reducible refine env_set ?_ (by with_reducible assumption) (by with_reducible assumption))) :
  Calls Tryz.prog 31 #[.slice A0 l0.length c0, .slice A1 l1.length c1] w fun e w' => ∃ v0_ : Value, e = .returned (.tuple #[v0_, .int .i64 r2]) ∧ WRow w' w.heap.size (fun _ => True) v0_ r1 ∧ Below w.heap.size w w' := by
 have hu48 := Tryz.underlying28; have hu80 := Tryz.underlying120
 unfold attr_Both.f at h
 by_cases hn : (l0.length + l1.length) * 40 ≤ 140737488355328; rotate_left
 · rw [if_neg hn] at h; cases h
 rw [if_pos hn] at h
 obtain ⟨why, hwhy, h⟩ := Option.bind_eq_some_iff.mp h
 have hsl := (sorted33_perm (l0 ++ l1)).2.1; have hdl := dd_len (sorted33 (l0 ++ l1)); rw [hsl] at hdl; have HN := Aside0.mk hn; have HR0 := Aside0.mk hr0; have HR1 := Aside0.mk hr1; have HE := Aside0.mk he_; have HW := Aside0.mk hwhy; have H := Aside0.mk h; have HSL := Aside0.mk hsl; have HDL := Aside0.mk hdl; clear hn hr0 hr1 he_ hwhy h hsl hdl
 go_enter Tryz.func31, Tryz.ntmps31
 go_wp2_with fail
 have hg0 : (w.alloc (.cells #[.slice A0 l0.length c0, .slice A1 l1.length c1] 28)).cell? ⟨w.heap.size, 0, none⟩ = some (.slice A0 l0.length c0) := cell_new9 _ _ _ _ _ rfl
 have hg1 : (w.alloc (.cells #[.slice A0 l0.length c0, .slice A1 l1.length c1] 28)).cell? ⟨w.heap.size, 1, none⟩ = some (.slice A1 l1.length c1) := cell_new9 _ _ _ _ _ rfl
 have hg2 : w.heap.size < (w.alloc (.cells #[.slice A0 l0.length c0, .slice A1 l1.length c1] 28)).heap.size := by simp
 have hC0 := Kd.C_alloc HR0.out (.cells #[.slice A0 l0.length c0, .slice A1 l1.length c1] 28); have hC1 := Kd.C_alloc HR1.out (.cells #[.slice A0 l0.length c0, .slice A1 l1.length c1] 28)
 have hbw : Below w.heap.size w (w.alloc (.cells #[.slice A0 l0.length c0, .slice A1 l1.length c1] 28)) := (Below.refl _ _).alloc (Nat.le_refl _) _
 generalize w.alloc (.cells #[.slice A0 l0.length c0, .slice A1 l1.length c1] 28) = W at hg0 hg1 hg2 hC0 hC1 hbw ⊢
 refine (slices_Concat_M.calls w.heap.size A0 A1 c0 c1 l0 l1 W hg0 hg1 hg2 hC0 hC1 HN.out).mono ?_
 clear hg0 hg1 hC0 hC1
 rintro e w1 ⟨v0, rfl, ho, hb⟩
 have HB := Aside0.mk (show Below w.heap.size w w1 from hbw.trans (hb.mono (by omega))); have HO := Aside0.mk (Kd.R_lower (base' := w.heap.size) ho (by omega)); clear ho hb hbw hg2
 have hall : (l0 ++ l1).length ≤ 3518437208883 := by have := HN.out; simp only [List.length_append]; omega
 clear HN
 generalize l0 ++ l1 = all at HO HW H HSL HDL hall
 have HA := Aside0.mk hall; clear hall
 obtain ⟨B, c, e1⟩ := Kd.R_slice HO.out
 subst e1
 go_wp2_with fail
 refine (attr_wrong.calls k B c all why _ (Kd.R_reads' HO.out).2.2 (Kd.R_reads' HO.out).2.1 HW.out (env_below HE.out HB.out)).mono ?_
 rintro e w2 ⟨rfl, hb⟩
 have HO2 := Aside0.mk (Kd.R_below HO.out hb); have HB2 := Aside0.mk (below_step HB.out hb); clear hb HO HB
 go_wp2_with fail
 refine (slices_SortFunc_M.calls (fun _ => True) _ all w _ HB2.out HO2.out (by have := HA.out; omega)).mono ?_
 rintro e w3 ⟨rfl, ho, hb⟩
 have HO3 := Aside0.mk ho; have HB3 := Aside0.mk hb; clear ho hb HO2 HB2
 go_wp2_with fail
 refine (slices_Compact_M.calls (fun _ => True) _ (sorted33 all) w _ HB3.out HO3.out (by have := HA.out; have := HSL.out; omega)).mono ?_
 rintro e w4 ⟨v4, rfl, ho, hb⟩
 have HO4 := Aside0.mk ho; have HB4 := Aside0.mk hb; clear ho hb HO3 HB3
 generalize dd (sorted33 all) = m at HO4 H HDL
 obtain ⟨C, c4, e4⟩ := Kd.R_slice HO4.out
 subst e4; have hdl := HDL.out; have hnn := HA.out
 have hml : m.length ≤ 3518437208883 := by omega
 have h := H.out; clear H hdl hnn HA HDL HSL; by_cases h8 : (m.length : Int) > 8
 ·
  rw [if_pos h8] at h
  simp only [Option.some.injEq, Prod.mk.injEq] at h
  obtain ⟨rfl, rfl⟩ := h
  have d8 : decide (8 < (m.length : Int)) = true := decide_eq_true h8
  have d8' : decide (8 < m.length) = true := decide_eq_true (by omega)
  clear h8
  go_wp2_with fail
  go_ret2
  exact ⟨_, rfl, ⟨none, 0, rfl, Nat.le_refl _, Nat.zero_le _, .inl rfl⟩, HB4.out⟩
 rw [if_neg h8] at h
 have d8 : decide (8 < (m.length : Int)) = false := decide_eq_false h8
 have d8' : decide (8 < m.length) = false := decide_eq_false (by omega)
 clear h8; by_cases hw : why = 0; rotate_left
 ·
  rw [if_neg hw] at h
  simp only [Option.some.injEq, Prod.mk.injEq] at h
  obtain ⟨rfl, rfl⟩ := h
  have dw : (why != 0) = true := bne_iff_ne.mpr hw
  clear hw
  go_wp2_with fail
  go_ret2
  exact ⟨_, rfl, ⟨none, 0, rfl, Nat.le_refl _, Nat.zero_le _, .inl rfl⟩, HB4.out⟩
 rw [if_pos hw] at h
 simp only [Option.some.injEq, Prod.mk.injEq] at h
 obtain ⟨rfl, rfl⟩ := h
 have dw : (why != 0) = false := bne_eq_false_iff_eq.mpr hw
 clear hw
 go_wp2_with fail
 refine (slices_Clip_M.calls C m.length c4 _ (Kd.R_reads' HO4.out).2.1 (R_cap54 HO4.out).1 (R_cap54 HO4.out).2).mono ?_
 rintro e w' ⟨rfl, rfl⟩
 go_wp2_with fail
 go_ret2
 exact ⟨_, rfl, WRow.of_R HO4.out, HB4.out⟩
end Go.Proofs.YtkedidjjhhjdbaaGreatDoor.Pr
end
section
set_option linter.unusedVariables false
set_option linter.unusedSimpArgs false
namespace Go.Proofs.YtkedidjjhhjdbaaGreatDoor.Pr
open Go.RowKit Go.Proofs.YtkedidjjhhjdbaaGreatDoorW.PrintWords Go.Proofs.YtkedidjjhhjdbaaGreatDoorW.PrintLast Go.Proofs.YtkedidjjhhjdbaaGreatDoorW.PrintMore
theorem eqM_refl (x : S33) : eqM x x = true := by simp [eqM]
end Go.Proofs.YtkedidjjhhjdbaaGreatDoor.Pr
end
section
set_option linter.unusedVariables false
set_option linter.unusedSimpArgs false
namespace Go.Proofs.YtkedidjjhhjdbaaGreatDoor.Pr
open Go.RowKit Go.Proofs.YtkedidjjhhjdbaaGreatDoorW.PrintWords Go.Proofs.YtkedidjjhhjdbaaGreatDoorW.PrintLast Go.Proofs.YtkedidjjhhjdbaaGreatDoorW.PrintMore
def slices_Clone_Str.f (l0 : List ByteArray) : Option (List ByteArray) := if l0.length < 8796093022208 then some l0 else none
set_option maxHeartbeats 1000000 in
theorem slices_Clone_Str.calls (A0 : Option Addr) (c0 : Nat) (l0 : List ByteArray) (r : List ByteArray) (w : World) (hr0 : Kd.C Kd.string w A0 l0.length l0) (hc0 : l0.length ≤ c0) (h : slices_Clone_Str.f l0 = some r) :
  Calls Tryz.prog 32 #[.slice A0 l0.length c0] w fun e w' => ∃ v0_ : Value, e = .returned (v0_) ∧ Kd.R Kd.string 9 w' w.heap.size (fun _ => True) v0_ r ∧ Below w.heap.size w w' := by
 unfold slices_Clone_Str.f at h
 by_cases hl : l0.length < 8796093022208; rotate_left
 · rw [if_neg hl] at h; cases h
 rw [if_pos hl] at h
 obtain rfl := Option.some.inj h
 clear h
 have q29 : ∀ (w : World) (a : Option Addr) (n c n' c' : Nat), (binOp .eql 29 (.slice a n c) (.slice none n' c')).run Tryz.prog w = .ok (.bool a.isNone) w := fun w a n c n' c' => Lib.run_eql_slice_nil w _ _ a n c n' c' Tryz.underlying29
 have HL := Aside0.mk hl; clear hl
 cases A0 with
 | none =>
  have h0 : l0.length = 0 := by
   rcases Nat.eq_zero_or_pos l0.length with h0 | h0
   · exact h0
   obtain ⟨ad, e, _⟩ := hr0.2.2 h0
   cases e
  have hn := List.eq_nil_of_length_eq_zero h0; subst hn; clear hr0 h0
  go_enter Tryz.func32, Tryz.ntmps32
  go_wp2; go_ret
  exact ⟨_, rfl, Kd.R_nil _ _ _ _ _, Below.refl _ _⟩
 | some ad =>
  have HR0 := Aside0.mk hr0; clear hr0 hc0
  go_enter Tryz.func32, Tryz.ntmps32
  go_wp2_with (first | ((with_reducible refine gate_builtin (b := .append) (xs := #[.tmp 5, .tmp 6]) rfl ?_); at_builtin; refine Kd.R_append_rows Kd.string (w0 := w) w.heap.size rfl (.tmp 5) (.tmp 6) 29 9 (.string ⟨#[]⟩) 16 rfl Tryz.underlying29 info9 rfl (by decide) (by omega) (.slice (some ⟨w.heap.size, 0, none⟩) 0 0) ([] : List (ByteArray)) l0 _ _ _ (fun _ => True) (fun _ => False) rfl rfl ?aO ?aR (fun _ _ h => h) (fun _ h => h.elim) ?aF ?aB ?aS ?aL ?_; (case aR => exact Kd.C_alloc HR0.out _); (case aB => exact (Below.refl _ _).alloc (Nat.le_refl _) _); (case aF => exact (fun _ _ => trivial)); (case aO => exact flatStr.R' (fun _ _ => trivial) (World.ownsRow_made w #[] 0 (Nat.le_refl _) (Nat.zero_le _) (by simp))); (case aS => simp); (case aL => have := HL.out; (try simp only [List.length_nil, Nat.zero_add]); omega); intro v1 w1 ho hb hg hat))
  go_ret
  exact ⟨_, rfl, by simpa using ho, hb⟩
end Go.Proofs.YtkedidjjhhjdbaaGreatDoor.Pr
end
section
namespace Go.Proofs.YtkedidjjhhjdbaaGreatDoor.Pr
open Go.RowKit Go.Proofs.YtkedidjjhhjdbaaGreatDoorW.PrintWords Go.Proofs.YtkedidjjhhjdbaaGreatDoorW.PrintLast Go.Proofs.YtkedidjjhhjdbaaGreatDoorW.PrintMore
attribute [local go_sem] max2_int min2_int max_two min_two max_three min_three max_four min_four strGtr strLeq strGeq
set_option linter.unusedVariables false
set_option linter.unusedSimpArgs false
def policy_other.f (a0_0 : Int) (a0_1 : ByteArray) (a0_2 : ByteArray) : Option (Int × ByteArray × ByteArray) := if a0_0 = 1 then (some (2, a0_1, a0_2)) else (if a0_0 = 2 then (some (1, a0_1, a0_2)) else (if a0_0 = 3 then (some (4, a0_1, a0_2)) else (if a0_0 = 4 then (some (3, a0_1, a0_2)) else (some (a0_0, a0_1, a0_2)))))
set_option maxHeartbeats 8000000 in
set_option maxRecDepth 100000 in
theorem policy_other.calls (a0_0 : Int) (a0_1 : ByteArray) (a0_2 : ByteArray) (r1 : Int) (r2 : ByteArray) (r3 : ByteArray) (w : World) (h : policy_other.f a0_0 a0_1 a0_2 = some (r1, r2, r3)) :
  Calls Tryz.prog 30 #[.agg #[.int .i64 a0_0, .string a0_1, .string a0_2]] w fun e w' => e = .returned (.agg #[.int .i64 r1, .string r2, .string r3]) ∧ Below w.heap.size w w' := by
 have hu33 := Tryz.underlying33; have HB := Aside0.mk (Below.refl w.heap.size w)
 have H : (if a0_0 = 1 then (some (2, a0_1, a0_2)) else (if a0_0 = 2 then (some (1, a0_1, a0_2)) else (if a0_0 = 3 then (some (4, a0_1, a0_2)) else (if a0_0 = 4 then (some (3, a0_1, a0_2)) else (some (a0_0, a0_1, a0_2)))))) = some (r1, r2, r3) := h
 clear h; by_cases c2 : a0_0 = 1
 ·
  rw [if_pos c2] at H
  have c2b0 : (a0_0 == 1) = true := beq_iff_eq.mpr c2
  have c2b1 : (a0_0 != 1) = false := bne_eq_false_iff_eq.mpr c2
  clear c2
  simp only [Option.some.injEq, Prod.mk.injEq] at H
  obtain ⟨rfl, rfl, rfl⟩ := H
  go_enter Tryz.func30, Tryz.ntmps30
  go_wp2_with (first | ((with_reducible refine gate_dst (N := 1) rfl ?_); refine box_event ?hg (N := 1) ?hd (cs := #[.int .i64 a0_0, .string a0_1, .string a0_2]) (t := 33) ?hr ?_; (case hd => rfl); (case hg => rfl); (case hr => first | (go_simp; done) | (go_simp; rfl)); intro gb117 hg w3 hbox hb; have n0_ := Aside0.mk (below_step bO hb); have n1_ := Aside0.mk (hbox); have n2_ := Aside0.mk ((by rw [hg]; exact (below_size bO) : w.heap.size ≤ gb117)); have n3_ := Aside0.mk ((by rw [hg]; exact (below_size bO) : w.heap.size ≤ gb117)); clear HB; have HB := n0_; have BK117 := n1_; have GW117 := n2_; have GE117 := n3_; clear n0_ n1_ n2_ n3_; clear hb hbox hg) | ((with_reducible refine gate_dst (N := 2) rfl ?_); refine box_event ?hg (N := 2) ?hd (cs := #[.int .i64 0, .string (⟨#[]⟩ : ByteArray), .string (⟨#[]⟩ : ByteArray)]) (t := 33) ?hr ?_; (case hd => rfl); (case hg => rfl); (case hr => first | (go_simp; done) | (go_simp; rfl)); intro gb118 hg w4 hbox hb; have n0_ := Aside0.mk (blk_below (g := gb117) (o := .cells #[.int .i64 a0_0, .string a0_1, .string a0_2] 33 (0, 0)) bK hb); have n1_ := Aside0.mk (below_step bO hb); have n2_ := Aside0.mk (hbox); have n3_ := Aside0.mk ((by rw [hg]; exact (below_size bO) : w.heap.size ≤ gb118)); have n4_ := Aside0.mk ((by rw [hg]; exact (below_size bO) : w.heap.size ≤ gb118)); have n5_ := Aside0.mk ((by rw [hg]; exact Nat.ne_of_lt (blk_lt (g := gb117) (o := .cells #[.int .i64 a0_0, .string a0_1, .string a0_2] 33 (0, 0)) bK) : gb117 ≠ gb118)); have n6_ := Aside0.mk ((by rw [hg]; exact Nat.ne_of_gt (blk_lt (g := gb117) (o := .cells #[.int .i64 a0_0, .string a0_1, .string a0_2] 33 (0, 0)) bK) : gb118 ≠ gb117)); clear BK117; clear HB; have BK117 := n0_; have HB := n1_; have BK118 := n2_; have GW118 := n3_; have GE118 := n4_; have NB117_118 := n5_; have NB118_117 := n6_; clear n0_ n1_ n2_ n3_ n4_ n5_ n6_; clear hb hbox hg; have hnb5 := NB117_118.out; have hnc5 := NB118_117.out; have hcz6_0 : w4.cell? ⟨gb117, 0, none⟩ = some (.int .i64 a0_0) := (blk_cell BK117.out 0).trans rfl; have hcz6_1 : w4.cell? ⟨gb117, 1, none⟩ = some (.string a0_1) := (blk_cell BK117.out 1).trans rfl; have hcz6_2 : w4.cell? ⟨gb117, 2, none⟩ = some (.string a0_2) := (blk_cell BK117.out 2).trans rfl; have hfz6_0 := blk_frozen BK117.out 0; have hfz6_1 := blk_frozen BK117.out 1; have hfz6_2 := blk_frozen BK117.out 2; have hcz7_0 : w4.cell? ⟨gb118, 0, none⟩ = some (.int .i64 0) := (blk_cell BK118.out 0).trans rfl; have hcz7_1 : w4.cell? ⟨gb118, 1, none⟩ = some (.string (⟨#[]⟩ : ByteArray)) := (blk_cell BK118.out 1).trans rfl; have hcz7_2 : w4.cell? ⟨gb118, 2, none⟩ = some (.string (⟨#[]⟩ : ByteArray)) := (blk_cell BK118.out 2).trans rfl; have hfz7_0 := blk_frozen BK118.out 0; have hfz7_1 := blk_frozen BK118.out 1; have hfz7_2 := blk_frozen BK118.out 2))
  refine bodyPost_ret (results_cell_row rfl _ _ gb118 33 #[.int .i64 2, .string a0_1, .string a0_2] (0, 0) _ rfl (by (with_reducible repeat (first | refine blk_drewN ?_ _ | refine blk_drew ?_ | refine blk_alloc ?_ _)); refine blk_put (cs := #[.int .i64 2, .string a0_1, .string (⟨#[]⟩ : ByteArray)]) ?_ 2 _ rfl; (with_reducible repeat (first | refine blk_drewN ?_ _ | refine blk_drew ?_ | refine blk_alloc ?_ _)); refine blk_put (cs := #[.int .i64 2, .string (⟨#[]⟩ : ByteArray), .string (⟨#[]⟩ : ByteArray)]) ?_ 1 _ rfl; (with_reducible repeat (first | refine blk_drewN ?_ _ | refine blk_drew ?_ | refine blk_alloc ?_ _)); refine blk_put (cs := #[.int .i64 0, .string (⟨#[]⟩ : ByteArray), .string (⟨#[]⟩ : ByteArray)]) ?_ 0 _ rfl; (with_reducible repeat (first | refine blk_drewN ?_ _ | refine blk_drew ?_ | refine blk_alloc ?_ _)); refine blk_far ?_ NB118_117.out _; (with_reducible repeat (first | refine blk_drewN ?_ _ | refine blk_drew ?_ | refine blk_alloc ?_ _)); exact BK118.out) Tryz.underlying33 rfl (by kernel_rfl)) rfl ?_
  exact ⟨eR, bO⟩
 rw [if_neg c2] at H
 have c2b0 : (a0_0 == 1) = false := beq_eq_false_iff_ne.mpr c2
 have c2b1 : (a0_0 != 1) = true := bne_iff_ne.mpr c2
 by_cases c8 : a0_0 = 2
 ·
  rw [if_pos c8] at H
  have c8b0 : (a0_0 == 2) = true := beq_iff_eq.mpr c8
  have c8b1 : (a0_0 != 2) = false := bne_eq_false_iff_eq.mpr c8
  clear c8
  simp only [Option.some.injEq, Prod.mk.injEq] at H
  obtain ⟨rfl, rfl, rfl⟩ := H
  go_enter Tryz.func30, Tryz.ntmps30
  go_wp2_with (first | ((with_reducible refine gate_dst (N := 1) rfl ?_); refine box_event ?hg (N := 1) ?hd (cs := #[.int .i64 a0_0, .string a0_1, .string a0_2]) (t := 33) ?hr ?_; (case hd => rfl); (case hg => rfl); (case hr => first | (go_simp; done) | (go_simp; rfl)); intro gb117 hg w9 hbox hb; have n0_ := Aside0.mk (below_step bO hb); have n1_ := Aside0.mk (hbox); have n2_ := Aside0.mk ((by rw [hg]; exact (below_size bO) : w.heap.size ≤ gb117)); have n3_ := Aside0.mk ((by rw [hg]; exact (below_size bO) : w.heap.size ≤ gb117)); clear HB; have HB := n0_; have BK117 := n1_; have GW117 := n2_; have GE117 := n3_; clear n0_ n1_ n2_ n3_; clear hb hbox hg) | ((with_reducible refine gate_dst (N := 2) rfl ?_); refine box_event ?hg (N := 2) ?hd (cs := #[.int .i64 0, .string (⟨#[]⟩ : ByteArray), .string (⟨#[]⟩ : ByteArray)]) (t := 33) ?hr ?_; (case hd => rfl); (case hg => rfl); (case hr => first | (go_simp; done) | (go_simp; rfl)); intro gb118 hg w10 hbox hb; have n0_ := Aside0.mk (blk_below (g := gb117) (o := .cells #[.int .i64 a0_0, .string a0_1, .string a0_2] 33 (0, 0)) bK hb); have n1_ := Aside0.mk (below_step bO hb); have n2_ := Aside0.mk (hbox); have n3_ := Aside0.mk ((by rw [hg]; exact (below_size bO) : w.heap.size ≤ gb118)); have n4_ := Aside0.mk ((by rw [hg]; exact (below_size bO) : w.heap.size ≤ gb118)); have n5_ := Aside0.mk ((by rw [hg]; exact Nat.ne_of_lt (blk_lt (g := gb117) (o := .cells #[.int .i64 a0_0, .string a0_1, .string a0_2] 33 (0, 0)) bK) : gb117 ≠ gb118)); have n6_ := Aside0.mk ((by rw [hg]; exact Nat.ne_of_gt (blk_lt (g := gb117) (o := .cells #[.int .i64 a0_0, .string a0_1, .string a0_2] 33 (0, 0)) bK) : gb118 ≠ gb117)); clear BK117; clear HB; have BK117 := n0_; have HB := n1_; have BK118 := n2_; have GW118 := n3_; have GE118 := n4_; have NB117_118 := n5_; have NB118_117 := n6_; clear n0_ n1_ n2_ n3_ n4_ n5_ n6_; clear hb hbox hg; have hnb11 := NB117_118.out; have hnc11 := NB118_117.out; have hcz12_0 : w10.cell? ⟨gb117, 0, none⟩ = some (.int .i64 a0_0) := (blk_cell BK117.out 0).trans rfl; have hcz12_1 : w10.cell? ⟨gb117, 1, none⟩ = some (.string a0_1) := (blk_cell BK117.out 1).trans rfl; have hcz12_2 : w10.cell? ⟨gb117, 2, none⟩ = some (.string a0_2) := (blk_cell BK117.out 2).trans rfl; have hfz12_0 := blk_frozen BK117.out 0; have hfz12_1 := blk_frozen BK117.out 1; have hfz12_2 := blk_frozen BK117.out 2; have hcz13_0 : w10.cell? ⟨gb118, 0, none⟩ = some (.int .i64 0) := (blk_cell BK118.out 0).trans rfl; have hcz13_1 : w10.cell? ⟨gb118, 1, none⟩ = some (.string (⟨#[]⟩ : ByteArray)) := (blk_cell BK118.out 1).trans rfl; have hcz13_2 : w10.cell? ⟨gb118, 2, none⟩ = some (.string (⟨#[]⟩ : ByteArray)) := (blk_cell BK118.out 2).trans rfl; have hfz13_0 := blk_frozen BK118.out 0; have hfz13_1 := blk_frozen BK118.out 1; have hfz13_2 := blk_frozen BK118.out 2))
  refine bodyPost_ret (results_cell_row rfl _ _ gb118 33 #[.int .i64 1, .string a0_1, .string a0_2] (0, 0) _ rfl (by (with_reducible repeat (first | refine blk_drewN ?_ _ | refine blk_drew ?_ | refine blk_alloc ?_ _)); refine blk_put (cs := #[.int .i64 1, .string a0_1, .string (⟨#[]⟩ : ByteArray)]) ?_ 2 _ rfl; (with_reducible repeat (first | refine blk_drewN ?_ _ | refine blk_drew ?_ | refine blk_alloc ?_ _)); refine blk_put (cs := #[.int .i64 1, .string (⟨#[]⟩ : ByteArray), .string (⟨#[]⟩ : ByteArray)]) ?_ 1 _ rfl; (with_reducible repeat (first | refine blk_drewN ?_ _ | refine blk_drew ?_ | refine blk_alloc ?_ _)); refine blk_put (cs := #[.int .i64 0, .string (⟨#[]⟩ : ByteArray), .string (⟨#[]⟩ : ByteArray)]) ?_ 0 _ rfl; (with_reducible repeat (first | refine blk_drewN ?_ _ | refine blk_drew ?_ | refine blk_alloc ?_ _)); refine blk_far ?_ NB118_117.out _; (with_reducible repeat (first | refine blk_drewN ?_ _ | refine blk_drew ?_ | refine blk_alloc ?_ _)); exact BK118.out) Tryz.underlying33 rfl (by kernel_rfl)) rfl ?_
  exact ⟨eR, bO⟩
 rw [if_neg c8] at H
 have c8b0 : (a0_0 == 2) = false := beq_eq_false_iff_ne.mpr c8
 have c8b1 : (a0_0 != 2) = true := bne_iff_ne.mpr c8
 by_cases c14 : a0_0 = 3
 ·
  rw [if_pos c14] at H
  have c14b0 : (a0_0 == 3) = true := beq_iff_eq.mpr c14
  have c14b1 : (a0_0 != 3) = false := bne_eq_false_iff_eq.mpr c14
  clear c14
  simp only [Option.some.injEq, Prod.mk.injEq] at H
  obtain ⟨rfl, rfl, rfl⟩ := H
  go_enter Tryz.func30, Tryz.ntmps30
  go_wp2_with (first | ((with_reducible refine gate_dst (N := 1) rfl ?_); refine box_event ?hg (N := 1) ?hd (cs := #[.int .i64 a0_0, .string a0_1, .string a0_2]) (t := 33) ?hr ?_; (case hd => rfl); (case hg => rfl); (case hr => first | (go_simp; done) | (go_simp; rfl)); intro gb117 hg w15 hbox hb; have n0_ := Aside0.mk (below_step bO hb); have n1_ := Aside0.mk (hbox); have n2_ := Aside0.mk ((by rw [hg]; exact (below_size bO) : w.heap.size ≤ gb117)); have n3_ := Aside0.mk ((by rw [hg]; exact (below_size bO) : w.heap.size ≤ gb117)); clear HB; have HB := n0_; have BK117 := n1_; have GW117 := n2_; have GE117 := n3_; clear n0_ n1_ n2_ n3_; clear hb hbox hg) | ((with_reducible refine gate_dst (N := 2) rfl ?_); refine box_event ?hg (N := 2) ?hd (cs := #[.int .i64 0, .string (⟨#[]⟩ : ByteArray), .string (⟨#[]⟩ : ByteArray)]) (t := 33) ?hr ?_; (case hd => rfl); (case hg => rfl); (case hr => first | (go_simp; done) | (go_simp; rfl)); intro gb118 hg w16 hbox hb; have n0_ := Aside0.mk (blk_below (g := gb117) (o := .cells #[.int .i64 a0_0, .string a0_1, .string a0_2] 33 (0, 0)) bK hb); have n1_ := Aside0.mk (below_step bO hb); have n2_ := Aside0.mk (hbox); have n3_ := Aside0.mk ((by rw [hg]; exact (below_size bO) : w.heap.size ≤ gb118)); have n4_ := Aside0.mk ((by rw [hg]; exact (below_size bO) : w.heap.size ≤ gb118)); have n5_ := Aside0.mk ((by rw [hg]; exact Nat.ne_of_lt (blk_lt (g := gb117) (o := .cells #[.int .i64 a0_0, .string a0_1, .string a0_2] 33 (0, 0)) bK) : gb117 ≠ gb118)); have n6_ := Aside0.mk ((by rw [hg]; exact Nat.ne_of_gt (blk_lt (g := gb117) (o := .cells #[.int .i64 a0_0, .string a0_1, .string a0_2] 33 (0, 0)) bK) : gb118 ≠ gb117)); clear BK117; clear HB; have BK117 := n0_; have HB := n1_; have BK118 := n2_; have GW118 := n3_; have GE118 := n4_; have NB117_118 := n5_; have NB118_117 := n6_; clear n0_ n1_ n2_ n3_ n4_ n5_ n6_; clear hb hbox hg; have hnb17 := NB117_118.out; have hnc17 := NB118_117.out; have hcz18_0 : w16.cell? ⟨gb117, 0, none⟩ = some (.int .i64 a0_0) := (blk_cell BK117.out 0).trans rfl; have hcz18_1 : w16.cell? ⟨gb117, 1, none⟩ = some (.string a0_1) := (blk_cell BK117.out 1).trans rfl; have hcz18_2 : w16.cell? ⟨gb117, 2, none⟩ = some (.string a0_2) := (blk_cell BK117.out 2).trans rfl; have hfz18_0 := blk_frozen BK117.out 0; have hfz18_1 := blk_frozen BK117.out 1; have hfz18_2 := blk_frozen BK117.out 2; have hcz19_0 : w16.cell? ⟨gb118, 0, none⟩ = some (.int .i64 0) := (blk_cell BK118.out 0).trans rfl; have hcz19_1 : w16.cell? ⟨gb118, 1, none⟩ = some (.string (⟨#[]⟩ : ByteArray)) := (blk_cell BK118.out 1).trans rfl; have hcz19_2 : w16.cell? ⟨gb118, 2, none⟩ = some (.string (⟨#[]⟩ : ByteArray)) := (blk_cell BK118.out 2).trans rfl; have hfz19_0 := blk_frozen BK118.out 0; have hfz19_1 := blk_frozen BK118.out 1; have hfz19_2 := blk_frozen BK118.out 2))
  refine bodyPost_ret (results_cell_row rfl _ _ gb118 33 #[.int .i64 4, .string a0_1, .string a0_2] (0, 0) _ rfl (by (with_reducible repeat (first | refine blk_drewN ?_ _ | refine blk_drew ?_ | refine blk_alloc ?_ _)); refine blk_put (cs := #[.int .i64 4, .string a0_1, .string (⟨#[]⟩ : ByteArray)]) ?_ 2 _ rfl; (with_reducible repeat (first | refine blk_drewN ?_ _ | refine blk_drew ?_ | refine blk_alloc ?_ _)); refine blk_put (cs := #[.int .i64 4, .string (⟨#[]⟩ : ByteArray), .string (⟨#[]⟩ : ByteArray)]) ?_ 1 _ rfl; (with_reducible repeat (first | refine blk_drewN ?_ _ | refine blk_drew ?_ | refine blk_alloc ?_ _)); refine blk_put (cs := #[.int .i64 0, .string (⟨#[]⟩ : ByteArray), .string (⟨#[]⟩ : ByteArray)]) ?_ 0 _ rfl; (with_reducible repeat (first | refine blk_drewN ?_ _ | refine blk_drew ?_ | refine blk_alloc ?_ _)); refine blk_far ?_ NB118_117.out _; (with_reducible repeat (first | refine blk_drewN ?_ _ | refine blk_drew ?_ | refine blk_alloc ?_ _)); exact BK118.out) Tryz.underlying33 rfl (by kernel_rfl)) rfl ?_
  exact ⟨eR, bO⟩
 rw [if_neg c14] at H
 have c14b0 : (a0_0 == 3) = false := beq_eq_false_iff_ne.mpr c14
 have c14b1 : (a0_0 != 3) = true := bne_iff_ne.mpr c14
 by_cases c20 : a0_0 = 4; rotate_left
 ·
  rw [if_neg c20] at H
  have c20b0 : (a0_0 == 4) = false := beq_eq_false_iff_ne.mpr c20
  have c20b1 : (a0_0 != 4) = true := bne_iff_ne.mpr c20
  simp only [Option.some.injEq, Prod.mk.injEq] at H
  obtain ⟨rfl, rfl, rfl⟩ := H
  go_enter Tryz.func30, Tryz.ntmps30
  go_wp2_with (first | ((with_reducible refine gate_dst (N := 1) rfl ?_); refine box_event ?hg (N := 1) ?hd (cs := #[.int .i64 a0_0, .string a0_1, .string a0_2]) (t := 33) ?hr ?_; (case hd => rfl); (case hg => rfl); (case hr => first | (go_simp; done) | (go_simp; rfl)); intro gb117 hg w26 hbox hb; have n0_ := Aside0.mk (below_step bO hb); have n1_ := Aside0.mk (hbox); have n2_ := Aside0.mk ((by rw [hg]; exact (below_size bO) : w.heap.size ≤ gb117)); have n3_ := Aside0.mk ((by rw [hg]; exact (below_size bO) : w.heap.size ≤ gb117)); clear HB; have HB := n0_; have BK117 := n1_; have GW117 := n2_; have GE117 := n3_; clear n0_ n1_ n2_ n3_; clear hb hbox hg) | ((with_reducible refine gate_dst (N := 2) rfl ?_); refine box_event ?hg (N := 2) ?hd (cs := #[.int .i64 0, .string (⟨#[]⟩ : ByteArray), .string (⟨#[]⟩ : ByteArray)]) (t := 33) ?hr ?_; (case hd => rfl); (case hg => rfl); (case hr => first | (go_simp; done) | (go_simp; rfl)); intro gb118 hg w27 hbox hb; have n0_ := Aside0.mk (blk_below (g := gb117) (o := .cells #[.int .i64 a0_0, .string a0_1, .string a0_2] 33 (0, 0)) bK hb); have n1_ := Aside0.mk (below_step bO hb); have n2_ := Aside0.mk (hbox); have n3_ := Aside0.mk ((by rw [hg]; exact (below_size bO) : w.heap.size ≤ gb118)); have n4_ := Aside0.mk ((by rw [hg]; exact (below_size bO) : w.heap.size ≤ gb118)); have n5_ := Aside0.mk ((by rw [hg]; exact Nat.ne_of_lt (blk_lt (g := gb117) (o := .cells #[.int .i64 a0_0, .string a0_1, .string a0_2] 33 (0, 0)) bK) : gb117 ≠ gb118)); have n6_ := Aside0.mk ((by rw [hg]; exact Nat.ne_of_gt (blk_lt (g := gb117) (o := .cells #[.int .i64 a0_0, .string a0_1, .string a0_2] 33 (0, 0)) bK) : gb118 ≠ gb117)); clear BK117; clear HB; have BK117 := n0_; have HB := n1_; have BK118 := n2_; have GW118 := n3_; have GE118 := n4_; have NB117_118 := n5_; have NB118_117 := n6_; clear n0_ n1_ n2_ n3_ n4_ n5_ n6_; clear hb hbox hg; have hnb28 := NB117_118.out; have hnc28 := NB118_117.out; have hcz29_0 : w27.cell? ⟨gb117, 0, none⟩ = some (.int .i64 a0_0) := (blk_cell BK117.out 0).trans rfl; have hcz29_1 : w27.cell? ⟨gb117, 1, none⟩ = some (.string a0_1) := (blk_cell BK117.out 1).trans rfl; have hcz29_2 : w27.cell? ⟨gb117, 2, none⟩ = some (.string a0_2) := (blk_cell BK117.out 2).trans rfl; have hfz29_0 := blk_frozen BK117.out 0; have hfz29_1 := blk_frozen BK117.out 1; have hfz29_2 := blk_frozen BK117.out 2; have hcz30_0 : w27.cell? ⟨gb118, 0, none⟩ = some (.int .i64 0) := (blk_cell BK118.out 0).trans rfl; have hcz30_1 : w27.cell? ⟨gb118, 1, none⟩ = some (.string (⟨#[]⟩ : ByteArray)) := (blk_cell BK118.out 1).trans rfl; have hcz30_2 : w27.cell? ⟨gb118, 2, none⟩ = some (.string (⟨#[]⟩ : ByteArray)) := (blk_cell BK118.out 2).trans rfl; have hfz30_0 := blk_frozen BK118.out 0; have hfz30_1 := blk_frozen BK118.out 1; have hfz30_2 := blk_frozen BK118.out 2))
  refine bodyPost_ret (results_cell_row rfl _ _ gb118 33 #[.int .i64 a0_0, .string a0_1, .string a0_2] (0, 0) _ rfl (by (with_reducible repeat (first | refine blk_drewN ?_ _ | refine blk_drew ?_ | refine blk_alloc ?_ _)); refine blk_put (cs := #[.int .i64 a0_0, .string a0_1, .string (⟨#[]⟩ : ByteArray)]) ?_ 2 _ rfl; (with_reducible repeat (first | refine blk_drewN ?_ _ | refine blk_drew ?_ | refine blk_alloc ?_ _)); refine blk_put (cs := #[.int .i64 a0_0, .string (⟨#[]⟩ : ByteArray), .string (⟨#[]⟩ : ByteArray)]) ?_ 1 _ rfl; (with_reducible repeat (first | refine blk_drewN ?_ _ | refine blk_drew ?_ | refine blk_alloc ?_ _)); refine blk_put (cs := #[.int .i64 0, .string (⟨#[]⟩ : ByteArray), .string (⟨#[]⟩ : ByteArray)]) ?_ 0 _ rfl; (with_reducible repeat (first | refine blk_drewN ?_ _ | refine blk_drew ?_ | refine blk_alloc ?_ _)); exact BK118.out) Tryz.underlying33 rfl (by kernel_rfl)) rfl ?_
  exact ⟨eR, bO⟩
 rw [if_pos c20] at H
 have c20b0 : (a0_0 == 4) = true := beq_iff_eq.mpr c20
 have c20b1 : (a0_0 != 4) = false := bne_eq_false_iff_eq.mpr c20
 clear c20
 simp only [Option.some.injEq, Prod.mk.injEq] at H
 obtain ⟨rfl, rfl, rfl⟩ := H
 go_enter Tryz.func30, Tryz.ntmps30
 go_wp2_with (first | ((with_reducible refine gate_dst (N := 1) rfl ?_); refine box_event ?hg (N := 1) ?hd (cs := #[.int .i64 a0_0, .string a0_1, .string a0_2]) (t := 33) ?hr ?_; (case hd => rfl); (case hg => rfl); (case hr => first | (go_simp; done) | (go_simp; rfl)); intro gb117 hg w21 hbox hb; have n0_ := Aside0.mk (below_step bO hb); have n1_ := Aside0.mk (hbox); have n2_ := Aside0.mk ((by rw [hg]; exact (below_size bO) : w.heap.size ≤ gb117)); have n3_ := Aside0.mk ((by rw [hg]; exact (below_size bO) : w.heap.size ≤ gb117)); clear HB; have HB := n0_; have BK117 := n1_; have GW117 := n2_; have GE117 := n3_; clear n0_ n1_ n2_ n3_; clear hb hbox hg) | ((with_reducible refine gate_dst (N := 2) rfl ?_); refine box_event ?hg (N := 2) ?hd (cs := #[.int .i64 0, .string (⟨#[]⟩ : ByteArray), .string (⟨#[]⟩ : ByteArray)]) (t := 33) ?hr ?_; (case hd => rfl); (case hg => rfl); (case hr => first | (go_simp; done) | (go_simp; rfl)); intro gb118 hg w22 hbox hb; have n0_ := Aside0.mk (blk_below (g := gb117) (o := .cells #[.int .i64 a0_0, .string a0_1, .string a0_2] 33 (0, 0)) bK hb); have n1_ := Aside0.mk (below_step bO hb); have n2_ := Aside0.mk (hbox); have n3_ := Aside0.mk ((by rw [hg]; exact (below_size bO) : w.heap.size ≤ gb118)); have n4_ := Aside0.mk ((by rw [hg]; exact (below_size bO) : w.heap.size ≤ gb118)); have n5_ := Aside0.mk ((by rw [hg]; exact Nat.ne_of_lt (blk_lt (g := gb117) (o := .cells #[.int .i64 a0_0, .string a0_1, .string a0_2] 33 (0, 0)) bK) : gb117 ≠ gb118)); have n6_ := Aside0.mk ((by rw [hg]; exact Nat.ne_of_gt (blk_lt (g := gb117) (o := .cells #[.int .i64 a0_0, .string a0_1, .string a0_2] 33 (0, 0)) bK) : gb118 ≠ gb117)); clear BK117; clear HB; have BK117 := n0_; have HB := n1_; have BK118 := n2_; have GW118 := n3_; have GE118 := n4_; have NB117_118 := n5_; have NB118_117 := n6_; clear n0_ n1_ n2_ n3_ n4_ n5_ n6_; clear hb hbox hg; have hnb23 := NB117_118.out; have hnc23 := NB118_117.out; have hcz24_0 : w22.cell? ⟨gb117, 0, none⟩ = some (.int .i64 a0_0) := (blk_cell BK117.out 0).trans rfl; have hcz24_1 : w22.cell? ⟨gb117, 1, none⟩ = some (.string a0_1) := (blk_cell BK117.out 1).trans rfl; have hcz24_2 : w22.cell? ⟨gb117, 2, none⟩ = some (.string a0_2) := (blk_cell BK117.out 2).trans rfl; have hfz24_0 := blk_frozen BK117.out 0; have hfz24_1 := blk_frozen BK117.out 1; have hfz24_2 := blk_frozen BK117.out 2; have hcz25_0 : w22.cell? ⟨gb118, 0, none⟩ = some (.int .i64 0) := (blk_cell BK118.out 0).trans rfl; have hcz25_1 : w22.cell? ⟨gb118, 1, none⟩ = some (.string (⟨#[]⟩ : ByteArray)) := (blk_cell BK118.out 1).trans rfl; have hcz25_2 : w22.cell? ⟨gb118, 2, none⟩ = some (.string (⟨#[]⟩ : ByteArray)) := (blk_cell BK118.out 2).trans rfl; have hfz25_0 := blk_frozen BK118.out 0; have hfz25_1 := blk_frozen BK118.out 1; have hfz25_2 := blk_frozen BK118.out 2))
 refine bodyPost_ret (results_cell_row rfl _ _ gb118 33 #[.int .i64 3, .string a0_1, .string a0_2] (0, 0) _ rfl (by (with_reducible repeat (first | refine blk_drewN ?_ _ | refine blk_drew ?_ | refine blk_alloc ?_ _)); refine blk_put (cs := #[.int .i64 3, .string a0_1, .string (⟨#[]⟩ : ByteArray)]) ?_ 2 _ rfl; (with_reducible repeat (first | refine blk_drewN ?_ _ | refine blk_drew ?_ | refine blk_alloc ?_ _)); refine blk_put (cs := #[.int .i64 3, .string (⟨#[]⟩ : ByteArray), .string (⟨#[]⟩ : ByteArray)]) ?_ 1 _ rfl; (with_reducible repeat (first | refine blk_drewN ?_ _ | refine blk_drew ?_ | refine blk_alloc ?_ _)); refine blk_put (cs := #[.int .i64 0, .string (⟨#[]⟩ : ByteArray), .string (⟨#[]⟩ : ByteArray)]) ?_ 0 _ rfl; (with_reducible repeat (first | refine blk_drewN ?_ _ | refine blk_drew ?_ | refine blk_alloc ?_ _)); refine blk_far ?_ NB118_117.out _; (with_reducible repeat (first | refine blk_drewN ?_ _ | refine blk_drew ?_ | refine blk_alloc ?_ _)); exact BK118.out) Tryz.underlying33 rfl (by kernel_rfl)) rfl ?_
 exact ⟨eR, bO⟩
end Go.Proofs.YtkedidjjhhjdbaaGreatDoor.Pr
end
