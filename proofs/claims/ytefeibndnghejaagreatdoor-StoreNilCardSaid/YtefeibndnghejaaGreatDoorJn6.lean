import Derived.Test.YtefeibndnghejaaGreatDoorJn5
import Derived.Deep.MidRow
import Derived.Great.CaseRows
import Derived.WalkSpells
import Derived.Carry
import Derived.RangeFuncNested
import Derived.RangeFuncBound
import Derived.RangeFuncCalls
import Derived.RangeFuncLeaves
import Derived.RangeFuncBox
import Derived.Shelf.Abstract
import Derived.WalkKit
import Derived.OwnWalkIn
import Derived.TacticsInMore
import Derived.LoopNIn
import Derived.LoopIn
import Derived.Maps.AppendAt
section
set_option linter.unusedVariables false
set_option linter.unusedSimpArgs false
namespace Go.Proofs.YtefeibndnghejaaGreatDoor.Pr
open Go.RowKit Go.Proofs.YtefeibndnghejaaGreatDoorW.PrintWords Go.Proofs.YtefeibndnghejaaGreatDoorW.PrintLast Go.Proofs.YtefeibndnghejaaGreatDoorW.PrintMore
def lists_last2.T1 : Bool × List (List Nat × List Nat) := (true, [([], []), ([0], [0]), ([1], [1]), ([2], [2]), ([], []), ([3, 4], [3, 4]), ([5, 0, 1, 2, 3, 4, 5], [5])])
def lists_last2.B1 : List Nat := [0, 1, 3, 7, 0, 31, 63]
set_option maxRecDepth 100000 in
theorem lists_last2.tab1 : rtab .any (opsOf Tryz.f66 1) = lists_last2.T1 := by kernel_rfl
set_option maxRecDepth 100000 in
theorem lists_last2.bits1 : waitsOk lists_last2.T1.2 lists_last2.B1 = true := by kernel_rfl
theorem exec_load102 {ρ : Operand → Value} {o : Oper} {x : Operand} (ho : o.op = .load 102 x) {g : Nat} (hx : ρ x = .pointer (some ⟨g, 0, none⟩)) {W : World} {cs : Array Value} (hg : W.heap[g]? = some (.cells cs 102 (0, 0))) (hs : cs.size = 24) :
  (execOp ρ o).run Tryz.prog W = .ok (.value (.agg cs)) W := by
 unfold execOp
 simp only [ho, hx, Instr.loadAt, Instr.sureAddr, Sem.run_bind, Sem.run_pure, Result.andThen_ok, run_loadVar_row (P := Tryz.prog) W g 102 102 cs (0, 0) _ hg Tryz.underlying102 rfl (by rw [hs]; kernel_rfl)]
theorem exec_lookup {ρ : Operand → Value} {o : Oper} {x y : Operand} {t : Nat} (ho : o.op = .lookup t x y false) {m k v : Value} (hx : ρ x = m) (hy : ρ y = k) {W : World} (h : (Instr.lookup t m k false).run Tryz.prog W = .ok v W) :
  (execOp ρ o).run Tryz.prog W = .ok (.value v) W := by
 unfold execOp
 simp only [ho, hx, hy, Sem.run_bind, Sem.run_pure, Result.andThen_ok, h]
abbrev MSpn (w : World) (base : Nat) (F : Nat → Prop) (m : Value) (f : List Int × List Int → List Bool) (N : Nat) : Prop := MRow 102 4 Kd.bool spDom spKey w base F m f N
theorem MSpn.look {w : World} {base : Nat} {F : Nat → Prop} {m : Value} {f : List Int × List Int → List Bool} {N : Nat} (h : MSpn w base F m f N) {p : List Int × List Int} (hp : spDom p) :
  ∃ v, (∀ W : World, Below w.heap.size w W → (Instr.lookup 77 m (spVal p) false).run Tryz.prog W = .ok v W) ∧ Kd.bool.R 4 w base F v (f p) := by
 rcases h with ⟨rfl, h⟩ | ⟨b, n, D, g, rfl, hn, h⟩
 ·
  refine ⟨.slice none 0 0, fun W _ => ?_, by rw [h _ hp]; exact Kd.R_nil _ _ _ _ _⟩
  exact Go.Maps.look_nil false law102 Tryz.underlying77 (Tryz.zeroValue127 _) (key102 hp)
 ·
  refine ⟨g (spKey p), fun W hW => ?_, h.rows _ hp⟩
  exact (h.step (w' := W) (fun k _ hk => hW.block k hk)).look law102 Tryz.underlying77 (Tryz.zeroValue127 _) (key102 hp)
theorem spVal_size {p : List Int × List Int} (hp : spDom p) : (p.1.map (Value.int .u8) ++ p.2.map (Value.int .u8)).toArray.size = 24 := by simp [hp.1, hp.2.1]
set_option maxRecDepth 100000 in
set_option maxHeartbeats 4000000 in
theorem last_span (g o : Nat) (m : Value) (p : List Int × List Int) (w : World) (base N : Nat) (F : Nat → Prop) (f : List Int × List Int → List Bool) (hp : spDom p) (hc : w.cell? ⟨g, o, none⟩ = some m) (h : MSpn w base F m f N) :
  Calls Tryz.prog 66 #[.pointer (some ⟨g, o, none⟩), spVal p] w fun e w' => (∃ b, e = .returned (.tuple #[.bool b, .bool (decide (f p ≠ []))])) ∧ Below w.heap.size w w' := by
 obtain ⟨v, hl, hr⟩ := h.look hp
 obtain ⟨A, c, rfl, hlc, hC⟩ := Kd.R_reads hr
 generalize f p = l at hC hlc hr hl ⊢
 have hs := spVal_size hp
 unfold spVal at hl ⊢
 generalize (p.1.map (Value.int .u8) ++ p.2.map (Value.int .u8)).toArray = cs at hl hs ⊢
 obtain ⟨W1, hW1⟩ : ∃ W1, W1 = w.alloc (.cells cs 102) := ⟨_, rfl⟩
 have hbW : Below w.heap.size w W1 := hW1 ▸ below_alloc (Below.refl _ _) _
 have hnew : W1.heap[w.heap.size]? = some (.cells cs 102 (0, 0)) := hW1 ▸ blk_new w _
 have hlA : ∀ W, Below W1.heap.size W1 W → (Instr.lookup 77 m (.agg cs) false).run Tryz.prog W = .ok (.slice A l.length c) W := fun W hW => hl W (below_step hbW hW)
 have hcA : ∀ W, Below W1.heap.size W1 W → W.cell? ⟨g, o, none⟩ = some m := fun W hW => ((below_step hbW hW).cell (World.block_lt_of_cell? w _ hc)).trans hc
 have HL := Aside0.mk hlA
 have HC := Aside0.mk hcA
 have HN := Aside0.mk hnew
 have HBW := Aside0.mk hbW
 clear hr hl h hlA hcA hnew hbW
 have hmx := Kd.C_max hC
 by_cases hz : l.length = 0
 ·
  have hl' : l = [] := List.eq_nil_of_length_eq_zero hz
  subst hl'
  clear hC
  go_enter Tryz.func66, Tryz.ntmps66
  go_upto_region 1 with (fail)
  rw [← hW1]
  clear hW1
  refine start_ (n := 7) (S := fun w' => Below W1.heap.size W1 w') (ds := [6]) #[false, false, false, false, false, false, false] (by kernel_rfl) rfl rfl (below_drew1 (Below.refl _ _)) (fun hHeld => ?_)
  refine with_tabW lists_last2.tab1 lists_last2.bits1 (fun HT_ HW_ => ?_)
  generalize W1.drew = W0 at hHeld ⊢
  refine pure_ (i := 0) (N := some 7) (v := ?_) (a' := ?_) #[true, false, false, false, false, false, false] rfl rfl (any_of HT_.out (by kernel_rfl)) (fun _ _ _ h => h) (Or.inl ⟨by rfl, ?_⟩) ?_ ?_
  rotate_left
  ·
   intro w'
   go_simp
   with_reducible rfl
  rotate_left
  ·
   simp only [Act.put, List.setIfInBounds_toArray, List.set_cons_zero, List.set_cons_succ, i64_w, i32_w]
   rfl
  refine pure_ (i := 1) (N := some 8) (v := ?_) (a' := ?_) #[true, true, false, false, false, false, false] rfl rfl (any_of HT_.out (by kernel_rfl)) (fun _ _ _ h => h) (Or.inl ⟨by rfl, ?_⟩) ?_ ?_
  rotate_left
  ·
   intro w'
   go_simp
   with_reducible rfl
  rotate_left
  ·
   simp only [Act.put, List.setIfInBounds_toArray, List.set_cons_zero, List.set_cons_succ, i64_w, i32_w]
   rfl
  refine pure_ (i := 2) (N := some 9) (v := ?_) (a' := ?_) #[true, true, true, false, false, false, false] rfl rfl (any_of HT_.out (by kernel_rfl)) (fun _ _ _ h => h) (Or.inl ⟨by rfl, ?_⟩) ?_ ?_
  rotate_left
  ·
   intro w'
   go_simp
   with_reducible rfl
  rotate_left
  ·
   simp only [Act.put, List.setIfInBounds_toArray, List.set_cons_zero, List.set_cons_succ, i64_w, i32_w]
   rfl
  refine take_ (i := 3) (N := some 10) (v := ?_) (a' := ?_) #[true, true, true, true, false, false, false] rfl rfl (take_ofW HT_.out HW_.out (by kernel_rfl)) (fun _ _ _ h => h) (Or.inl ⟨by rfl, ?_⟩) hHeld ?_ ?_
  rotate_left
  ·
   rintro w' hw
   have y := HC.out w' hw
   go_simp
   with_reducible rfl
  rotate_left
  ·
   simp only [Act.put, List.setIfInBounds_toArray, List.set_cons_zero, List.set_cons_succ, i64_w, i32_w]
   rfl
  refine take_ (i := 4) (N := some 11) (v := ?_) (a' := ?_) #[true, true, true, true, true, false, false] rfl rfl (take_ofW HT_.out HW_.out (by kernel_rfl)) (fun _ _ _ h => h) (Or.inl ⟨by rfl, ?_⟩) hHeld ?_ ?_
  rotate_left
  ·
   rintro w' hw
   refine exec_load102 (x := .tmp 3) ?_ ?_ (blk_below HN.out hw) hs
   ·
    rfl
   ·
    rfl
  rotate_left
  ·
   simp only [Act.put, List.setIfInBounds_toArray, List.set_cons_zero, List.set_cons_succ, i64_w, i32_w]
   rfl
  refine take_ (i := 5) (N := some 12) (v := ?_) (a' := ?_) #[true, true, true, true, true, true, false] rfl rfl (take_ofW HT_.out HW_.out (by kernel_rfl)) (fun _ _ _ h => h) (Or.inl ⟨by rfl, ?_⟩) hHeld ?_ ?_
  rotate_left
  ·
   rintro w' hw
   refine exec_lookup (v := (.slice A ([] : List Bool).length c)) (x := .tmp 10) (y := .tmp 11) ?_ ?_ ?_ (HL.out w' hw)
   ·
    rfl
   ·
    rfl
   ·
    rfl
  rotate_left
  ·
   simp only [Act.put, List.setIfInBounds_toArray, List.set_cons_zero, List.set_cons_succ, i64_w, i32_w]
   rfl
  refine pure_ (i := 6) (N := some 6) (v := ?_) (a' := ?_) #[true, true, true, true, true, true, true] rfl rfl (any_of HT_.out (by kernel_rfl)) (fun _ _ _ h => h) (Or.inl ⟨by rfl, ?_⟩) ?_ ?_
  rotate_left
  ·
   intro w'
   go_simp
   with_reducible rfl
  rotate_left
  ·
   simp only [Act.put, List.setIfInBounds_toArray, List.set_cons_zero, List.set_cons_succ, i64_w, i32_w]
   rfl
  refine done_ (done_of HT_.out (by kernel_rfl)) ?_
  go_wp2
  go_ret2
  exact ⟨⟨_, rfl⟩, below_step HBW.out hHeld⟩
 ·
  have hz1 : ((l.length : Int) == 0) = false := by simp; exact fun e => hz (by simp [e])
  have hw : wrap64 ((l.length : Int) - 1) = ((l.length - 1 : Nat) : Int) := by rw [IntWalk.wrap64_in _ (by omega)]; omega
  obtain ⟨ad, rfl, hcell⟩ := Kd.at_bool hC ((l.length - 1 : Nat) : Int) (by omega) (by omega)
  have hne : decide (l ≠ []) = true := decide_eq_true (fun e => hz (by rw [e]; rfl))
  have hlt : ((l.length - 1 : Nat) : Int) < (l.length : Int) := by omega
  rw [hne]
  generalize rdOf false l ((l.length - 1 : Nat) : Int) = z at hcell
  rw [Int.toNat_natCast] at hcell
  have hcellA := Aside0.mk hcell
  clear hC hne hcell
  go_enter Tryz.func66, Tryz.ntmps66
  go_upto_region 1 with (fail)
  rw [← hW1]
  clear hW1
  refine start_ (n := 7) (S := fun w' => Below W1.heap.size W1 w') (ds := [6]) #[false, false, false, false, false, false, false] (by kernel_rfl) rfl rfl (below_drew1 (Below.refl _ _)) (fun hHeld => ?_)
  refine with_tabW lists_last2.tab1 lists_last2.bits1 (fun HT_ HW_ => ?_)
  generalize W1.drew = W0 at hHeld ⊢
  refine pure_ (i := 0) (N := some 7) (v := ?_) (a' := ?_) #[true, false, false, false, false, false, false] rfl rfl (any_of HT_.out (by kernel_rfl)) (fun _ _ _ h => h) (Or.inl ⟨by rfl, ?_⟩) ?_ ?_
  rotate_left
  ·
   intro w'
   go_simp
   with_reducible rfl
  rotate_left
  ·
   simp only [Act.put, List.setIfInBounds_toArray, List.set_cons_zero, List.set_cons_succ, i64_w, i32_w]
   rfl
  refine pure_ (i := 1) (N := some 8) (v := ?_) (a' := ?_) #[true, true, false, false, false, false, false] rfl rfl (any_of HT_.out (by kernel_rfl)) (fun _ _ _ h => h) (Or.inl ⟨by rfl, ?_⟩) ?_ ?_
  rotate_left
  ·
   intro w'
   go_simp
   with_reducible rfl
  rotate_left
  ·
   simp only [Act.put, List.setIfInBounds_toArray, List.set_cons_zero, List.set_cons_succ, i64_w, i32_w]
   rfl
  refine pure_ (i := 2) (N := some 9) (v := ?_) (a' := ?_) #[true, true, true, false, false, false, false] rfl rfl (any_of HT_.out (by kernel_rfl)) (fun _ _ _ h => h) (Or.inl ⟨by rfl, ?_⟩) ?_ ?_
  rotate_left
  ·
   intro w'
   go_simp
   with_reducible rfl
  rotate_left
  ·
   simp only [Act.put, List.setIfInBounds_toArray, List.set_cons_zero, List.set_cons_succ, i64_w, i32_w]
   rfl
  refine take_ (i := 3) (N := some 10) (v := ?_) (a' := ?_) #[true, true, true, true, false, false, false] rfl rfl (take_ofW HT_.out HW_.out (by kernel_rfl)) (fun _ _ _ h => h) (Or.inl ⟨by rfl, ?_⟩) hHeld ?_ ?_
  rotate_left
  ·
   rintro w' hw
   have y := HC.out w' hw
   go_simp
   with_reducible rfl
  rotate_left
  ·
   simp only [Act.put, List.setIfInBounds_toArray, List.set_cons_zero, List.set_cons_succ, i64_w, i32_w]
   rfl
  refine take_ (i := 4) (N := some 11) (v := ?_) (a' := ?_) #[true, true, true, true, true, false, false] rfl rfl (take_ofW HT_.out HW_.out (by kernel_rfl)) (fun _ _ _ h => h) (Or.inl ⟨by rfl, ?_⟩) hHeld ?_ ?_
  rotate_left
  ·
   rintro w' hw
   refine exec_load102 (x := .tmp 3) ?_ ?_ (blk_below HN.out hw) hs
   ·
    rfl
   ·
    rfl
  rotate_left
  ·
   simp only [Act.put, List.setIfInBounds_toArray, List.set_cons_zero, List.set_cons_succ, i64_w, i32_w]
   rfl
  refine take_ (i := 5) (N := some 12) (v := ?_) (a' := ?_) #[true, true, true, true, true, true, false] rfl rfl (take_ofW HT_.out HW_.out (by kernel_rfl)) (fun _ _ _ h => h) (Or.inl ⟨by rfl, ?_⟩) hHeld ?_ ?_
  rotate_left
  ·
   rintro w' hw
   refine exec_lookup (v := (.slice (some ad) l.length c)) (x := .tmp 10) (y := .tmp 11) ?_ ?_ ?_ (HL.out w' hw)
   ·
    rfl
   ·
    rfl
   ·
    rfl
  rotate_left
  ·
   simp only [Act.put, List.setIfInBounds_toArray, List.set_cons_zero, List.set_cons_succ, i64_w, i32_w]
   rfl
  refine pure_ (i := 6) (N := some 6) (v := ?_) (a' := ?_) #[true, true, true, true, true, true, true] rfl rfl (any_of HT_.out (by kernel_rfl)) (fun _ _ _ h => h) (Or.inl ⟨by rfl, ?_⟩) ?_ ?_
  rotate_left
  ·
   intro w'
   go_simp
   with_reducible rfl
  rotate_left
  ·
   simp only [Act.put, List.setIfInBounds_toArray, List.set_cons_zero, List.set_cons_succ, i64_w, i32_w]
   rfl
  refine done_ (done_of HT_.out (by kernel_rfl)) ?_
  have hcell : W0.cell? (ad.add (l.length - 1)) = some (.bool z) := ((below_step HBW.out hHeld).cell (World.block_lt_of_cell? w _ hcellA.out)).trans hcellA.out
  go_wp2
  go_ret2
  exact ⟨⟨_, rfl⟩, below_step HBW.out hHeld⟩
end Go.Proofs.YtefeibndnghejaaGreatDoor.Pr
end
section
set_option linter.unusedVariables false
set_option linter.unusedSimpArgs false
namespace Go.Proofs.YtefeibndnghejaaGreatDoor.Pr
open Go.RowKit Go.Proofs.YtefeibndnghejaaGreatDoorW.PrintWords Go.Proofs.YtefeibndnghejaaGreatDoorW.PrintLast Go.Proofs.YtefeibndnghejaaGreatDoorW.PrintMore
theorem exec_mapUpdate {ρ : Operand → Value} {o : Oper} {x y z : Operand} {t : Nat} (ho : o.op = .mapUpdate t x y z) {m k v : Value} (hx : ρ x = m) (hy : ρ y = k) (hz : ρ z = v) {W W2 : World} (h : (Instr.mapUpdate t m k v).run Tryz.prog W = .ok () W2) :
  (execOp ρ o).run Tryz.prog W = .ok .skip W2 := by
 unfold execOp
 simp only [ho, hx, hy, hz, Sem.run_bind, Sem.run_pure, Result.andThen_ok, h]
theorem map_nil_eq (t : Nat) {kt E : Nat} (ht : Tryz.prog.underlying t = some (.map kt E)) (x y : Operand) (m : Value) (hm : m = .map none ∨ ∃ b, m = .map (some b)) : ∃ z : Bool, (∀ W : World, (binOp .eql t m (.map none)).run Tryz.prog W = .ok (.bool z) W) ∧ (∀ W : World, (eqGuard .eql t x y m (.map none)).run Tryz.prog W = .ok () W) ∧ (z = true → m = .map none) ∧ (z = false → ∃ b, m = .map (some b)) := by
 rcases hm with rfl | ⟨b, rfl⟩
 ·
  exact ⟨true, fun W => run_eql_map_nil W t kt E none ht, fun W => by simp [eqGuard], fun _ => rfl, fun h => (by cases h)⟩
 ·
  exact ⟨false, fun W => run_eql_map_nil W t kt E (some b) ht, fun W => by simp [eqGuard], fun h => (by cases h), fun _ => ⟨b, rfl⟩⟩
def lists_add1.T2 : Bool × List (List Nat × List Nat) := (true, [([], []), ([0], [0]), ([1], [1]), ([2], [2]), ([], []), ([], []), ([5], [5]), ([6], [6]), ([7], [7]), ([], []), ([8, 9], [8, 9]), ([], []), ([11], [11]), ([10, 12], [10, 12]), ([3, 4, 13, 13, 0, 1, 2, 3, 4, 5, 6, 7, 8, 9, 10, 11, 12, 13], [3, 4, 13])])
def lists_add1.B2 : List Nat := [0, 1, 3, 7, 0, 0, 32, 96, 224, 0, 992, 0, 2048, 8160, 16383]
set_option maxRecDepth 100000 in
theorem lists_add1.tab2 : rtab .any (opsOf Tryz.f71 2) = lists_add1.T2 := by kernel_rfl
set_option maxRecDepth 100000 in
theorem lists_add1.bits2 : waitsOk lists_add1.T2.2 lists_add1.B2 = true := by kernel_rfl
theorem info2_ : (Tryz.prog.info? 2).map (fun i => (i.zero, i.size, i.bytes)) = some (some (.int .i64 0), 1, 8) := by kernel_rfl
structure Add2 (w : World) (g o : Nat) (cs ks : Array Value) (base : Nat) (F : Nat → Prop) (f : (List UInt8) → List Int) (N b n : Nat) (D : DataW Value) (gm : Lit → Value) (W : World) : Prop where
  blk : W.heap[g]? = some (.cells (cs.setIfInBounds o (.map (some b))) 81 (0, 0))
  mm : MMade 9 2 (Kd.int .i64) (fun _ => True) Lit.string W base F b n D gm f
  nb : n ≤ N
  size : w.heap.size ≤ W.heap.size
  chg : Chg (fun q => q = g ∨ F q) w W
  os : o < cs.size
theorem Add2.drew {w : World} {g o : Nat} {cs ks : Array Value} {base : Nat} {F : Nat → Prop} {f : (List UInt8) → List Int} {N b n : Nat} {D : DataW Value} {gm : Lit → Value} {W : World} (h : Add2 w g o cs ks base F f N b n D gm W) : Add2 w g o cs ks base F f N b n D gm W.drew :=
 ⟨h.blk, h.mm.step (fun _ _ _ => rfl), h.nb, h.size, h.chg.then_below (below_drew1 (Below.refl _ _)), h.os⟩
theorem Add2.cell {w : World} {g o : Nat} {cs ks : Array Value} {base : Nat} {F : Nat → Prop} {f : (List UInt8) → List Int} {N b n : Nat} {D : DataW Value} {gm : Lit → Value} {W : World} (h : Add2 w g o cs ks base F f N b n D gm W) : W.cell? ⟨g, o, none⟩ = some (.map (some b)) :=
 (blk_cell h.blk o).trans (by rw [Array.getElem?_setIfInBounds]; simp [h.os])
set_option maxRecDepth 100000 in
set_option maxHeartbeats 4000000 in
theorem add_ser (g o : Nat) (cs : Array Value) (m : Value) (s : ByteArray) (hs : s.size ≤ maxLen) (v : Int) (w : World) (base N : Nat) (F : Nat → Prop) (f : (List UInt8) → List Int) (hb : w.heap[g]? = some (.cells cs 81 (0, 0))) (ho : cs[o]? = some m) (h : MSer w base F m f N)
  (hN : N < 1099511627776) (hgF : ¬ F g) (hfr : ∀ q, w.heap.size ≤ q → F q) (hbase : base ≤ w.heap.size) (hln : (f s.data.toList).length < 1099511627776) (f' : (List UInt8) → List Int) (hf' : ∀ x, (fun _ => True) x → f' x = if x = s.data.toList then f s.data.toList ++ [v] else f x) :
  Calls Tryz.prog 71 #[.pointer (some ⟨g, o, none⟩), .string s, .int .i64 v] w fun e w' => (∃ u, e = .returned u) ∧ ∃ m', w'.heap[g]? = some (.cells (cs.setIfInBounds o m') 81 (0, 0)) ∧ MSer w' base F m' f' (N + 1) ∧ Chg (fun q => q = g ∨ F q) w w' := by
 have hmm : m = .map none ∨ ∃ b, m = .map (some b) := by
  rcases h with ⟨e, _⟩ | ⟨b, _, _, _, e, _⟩
  ·
   exact .inl e
  ·
   exact .inr ⟨b, e⟩
 have HMM := Aside0.mk hmm
 obtain ⟨z, hz, hzg, hz1, hz0⟩ := map_nil_eq 74 Tryz.underlying74 (.tmp 9) (.const (.map none)) m hmm
 have HZ1 := Aside0.mk hz1
 have HZ0 := Aside0.mk hz0
 have hc0 : w.cell? ⟨g, o, none⟩ = some m := (blk_cell hb o).trans ho
 have hf0 : w.frozen? ⟨g, o, none⟩ = false := blk_frozen hb o
 have hos : o < cs.size := (Array.getElem?_eq_some_iff.1 ho).1
 have H := Aside0.mk h
 have HB := Aside0.mk hb
 have HO := Aside0.mk (And.intro ho hos)
 have HN := Aside0.mk hN
 have HGF := Aside0.mk hgF
 have HFR := Aside0.mk hfr
 have HBS := Aside0.mk hbase
 have HLN := Aside0.mk hln
 have HKEY := Aside0.mk (key9 hs)
 have HF' : Aside0 (∀ x, True → (Lit.string x = Lit.string s.data.toList → f' x = f s.data.toList ++ [v]) ∧ (Lit.string x ≠ Lit.string s.data.toList → f' x = f x)) := ⟨fun x _ => ⟨fun e => by
  rw [hf' x trivial, if_pos (Lit.string.inj e)], fun e => by rw [hf' x trivial, if_neg (fun e' => e (by rw [e']))]⟩⟩
 clear hz1 hz0 h hb ho hN hgF hfr hbase hln hmm hf' hs hos
 have hmk := @run_makeMap Tryz.prog
 go_enter Tryz.func71, Tryz.ntmps71
 go_upto_if 10 with (fail)
 go_cut [6, 7, 8, 9, 10, 11, 12, 13, 14] (fun _ _ _ _ _ _ _ _ _ wc => ∃ b n D gm, Add2 w g o cs #[] base F f N b n D gm wc)
 case first =>
  cases z with
  | false =>
   obtain ⟨b, rfl⟩ := HZ0.out rfl
   rcases H.out with ⟨e, _⟩ | ⟨b', n, D, gm, e, hn, hM⟩
   ·
    cases e
   obtain rfl : b = b' := by simpa using e
   have hA : Add2 w g o cs #[] base F f N b n D gm w := ⟨by
    have e : cs.setIfInBounds o (.map (some b)) = cs := by
     apply Array.ext_getElem?
     intro i
     rw [Array.getElem?_setIfInBounds]
     split
     ·
      rename_i e; subst e; rw [if_pos HO.out.2]; exact HO.out.1.symm
     ·
      rfl
    rw [e]
    exact HB.out, hM, hn, Nat.le_refl _, Chg.refl _ _, HO.out.2⟩
   have HA := Aside0.mk hA
   clear hA hM hn e
   go_wp2_with (fail)
   go_meet
   case rel => exact ⟨b, n, D, gm, HA.out⟩
  | true =>
   obtain rfl := HZ1.out rfl
   have hnil : ∀ x, True → f x = [] := by
    rcases H.out with ⟨_, hnil⟩ | ⟨b', n, D, gm, e, hn, hM⟩
    ·
     exact hnil
    ·
     cases e
   have HNIL := Aside0.mk hnil
   clear hnil
   have hlt : g < w.heap.size := blk_lt HB.out
   have hne : g ≠ w.heap.size := by omega
   have HA : Aside0 (Add2 w g o cs #[] base F f N w.heap.size 0 (.map []) (fun _ => .slice none 0 0) ((w.alloc (.map #[] 0)).setCell ⟨g, o, none⟩ (.map (some w.heap.size)))) := by
    have hM := MMade.new 9 2 (Kd.int .i64) (fun _ => True) Lit.string w base F HNIL.out HBS.out (HFR.out _ (Nat.le_refl _))
    exact ⟨⟨blk_set (blk_alloc HB.out _) o _, hM.step (fun k hk _ => Below.heap_setCell _ _ _ _ (fun e => HGF.out ((show k = g from e) ▸ hk))), Nat.zero_le _, by simp [World.setCell], (Chg.of_below (below_alloc (Below.refl _ _) _)).trans (Chg.setCell (F := fun q => q = g ∨ F q) (.inl rfl) _) (fun q hq => .inl hq), HO.out.2⟩⟩
   have hcz : (w.alloc (.map #[] 0)).cell? ⟨g, o, none⟩ = some (.map none) := (blk_cell (blk_alloc HB.out _) o).trans HO.out.1
   have hfz : (w.alloc (.map #[] 0)).frozen? ⟨g, o, none⟩ = false := blk_frozen (blk_alloc HB.out _) o
   clear hlt hne
   go_wp2_with (fail)
   go_meet
   case rel => exact ⟨_, _, _, _, HA.out⟩
 case rest =>
  obtain ⟨b, n, D, gm, hA⟩ := hcut
  have HLK : Aside0 (∀ W : World, W.heap[b]? = wc.heap[b]? → (Instr.lookup 74 (.map (some b)) (.string s) false).run Tryz.prog W = .ok (gm (Lit.string s.data.toList)) W) := ⟨fun W hW => by
   obtain ⟨u, ps, hr, hv⟩ := (ownsMap_step hA.mm.mp hW).lookup law9 Tryz.underlying74 (Tryz.zeroValue123 _) (show RH (.slice none 0 0) = some (zN, []) from rfl) HKEY.out
   rw [hr]
   have hv' : DataW.held u = D.atKey _ zN := (Prod.mk.inj (Option.some.inj hv)).1
   rw [hA.mm.at_] at hv'
   rw [DataW.held.inj hv']⟩
  clear hz hzg hc0 hf0 hmk
  go_upto_region 2 with (fail)
  refine start_ (n := 15) (S := fun w' => w'.cell? ⟨g, o, none⟩ = some (.map (some b)) ∧ w'.heap[b]? = wc.heap[b]?) (ds := [14]) #[false, false, false, false, false, false, false, false, false, false, false, false, false, false, false] (by kernel_rfl) rfl rfl ⟨hA.cell, rfl⟩ (fun hHeld => ?_)
  refine with_tabW lists_add1.tab2 lists_add1.bits2 (fun HT_ HW_ => ?_)
  replace hA := Aside0.mk (hA.drew)
  generalize wc.drew = W0 at hHeld hA ⊢
  have hH0 := Aside0.mk hHeld
  refine pure_ (i := 0) (N := some 15) (v := ?_) (a' := ?_) #[true, false, false, false, false, false, false, false, false, false, false, false, false, false, false] rfl rfl (any_of HT_.out (by kernel_rfl)) (fun _ _ _ h => h) (Or.inl ⟨by rfl, ?_⟩) ?_ ?_
  rotate_left
  ·
   intro w'
   go_simp
   with_reducible rfl
  rotate_left
  ·
   simp only [Act.put, List.setIfInBounds_toArray, List.set_cons_zero, List.set_cons_succ, i64_w, i32_w]
   rfl
  refine pure_ (i := 1) (N := some 16) (v := ?_) (a' := ?_) #[true, true, false, false, false, false, false, false, false, false, false, false, false, false, false] rfl rfl (any_of HT_.out (by kernel_rfl)) (fun _ _ _ h => h) (Or.inl ⟨by rfl, ?_⟩) ?_ ?_
  rotate_left
  ·
   intro w'
   go_simp
   with_reducible rfl
  rotate_left
  ·
   simp only [Act.put, List.setIfInBounds_toArray, List.set_cons_zero, List.set_cons_succ, i64_w, i32_w]
   rfl
  refine pure_ (i := 2) (N := some 17) (v := ?_) (a' := ?_) #[true, true, true, false, false, false, false, false, false, false, false, false, false, false, false] rfl rfl (any_of HT_.out (by kernel_rfl)) (fun _ _ _ h => h) (Or.inl ⟨by rfl, ?_⟩) ?_ ?_
  rotate_left
  ·
   intro w'
   go_simp
   with_reducible rfl
  rotate_left
  ·
   simp only [Act.put, List.setIfInBounds_toArray, List.set_cons_zero, List.set_cons_succ, i64_w, i32_w]
   rfl
  refine pure_ (i := 5) (N := some 20) (v := ?_) (a' := ?_) #[true, true, true, false, false, true, false, false, false, false, false, false, false, false, false] rfl rfl (any_of HT_.out (by kernel_rfl)) (fun _ _ _ h => h) (Or.inl ⟨by rfl, ?_⟩) ?_ ?_
  rotate_left
  ·
   intro w'
   go_simp
   with_reducible rfl
  rotate_left
  ·
   simp only [Act.put, List.setIfInBounds_toArray, List.set_cons_zero, List.set_cons_succ, i64_w, i32_w]
   rfl
  refine pure_ (i := 6) (N := some 21) (v := ?_) (a' := ?_) #[true, true, true, false, false, true, true, false, false, false, false, false, false, false, false] rfl rfl (any_of HT_.out (by kernel_rfl)) (fun _ _ _ h => h) (Or.inl ⟨by rfl, ?_⟩) ?_ ?_
  rotate_left
  ·
   intro w'
   go_simp
   with_reducible rfl
  rotate_left
  ·
   simp only [Act.put, List.setIfInBounds_toArray, List.set_cons_zero, List.set_cons_succ, i64_w, i32_w]
   rfl
  refine pure_ (i := 7) (N := some 22) (v := ?_) (a' := ?_) #[true, true, true, false, false, true, true, true, false, false, false, false, false, false, false] rfl rfl (any_of HT_.out (by kernel_rfl)) (fun _ _ _ h => h) (Or.inl ⟨by rfl, ?_⟩) ?_ ?_
  rotate_left
  ·
   intro w'
   go_simp
   with_reducible rfl
  rotate_left
  ·
   simp only [Act.put, List.setIfInBounds_toArray, List.set_cons_zero, List.set_cons_succ, i64_w, i32_w]
   rfl
  refine pure_ (i := 11) (N := some 26) (v := ?_) (a' := ?_) #[true, true, true, false, false, true, true, true, false, false, false, true, false, false, false] rfl rfl (any_of HT_.out (by kernel_rfl)) (fun _ _ _ h => h) (Or.inl ⟨by rfl, ?_⟩) ?_ ?_
  rotate_left
  ·
   intro w'
   go_simp
   with_reducible rfl
  rotate_left
  ·
   simp only [Act.put, List.setIfInBounds_toArray, List.set_cons_zero, List.set_cons_succ, i64_w, i32_w]
   rfl
  refine take_ (i := 3) (N := some 18) (v := ?_) (a' := ?_) #[true, true, true, true, false, true, true, true, false, false, false, true, false, false, false] rfl rfl (take_ofW HT_.out HW_.out (by kernel_rfl)) (fun _ _ _ h => h) (Or.inl ⟨by rfl, ?_⟩) hHeld ?_ ?_
  rotate_left
  ·
   rintro w' ⟨y, hb⟩
   go_simp
   with_reducible rfl
  rotate_left
  ·
   simp only [Act.put, List.setIfInBounds_toArray, List.set_cons_zero, List.set_cons_succ, i64_w, i32_w]
   rfl
  refine take_ (i := 8) (N := some 23) (v := ?_) (a' := ?_) #[true, true, true, true, false, true, true, true, true, false, false, true, false, false, false] rfl rfl (take_ofW HT_.out HW_.out (by kernel_rfl)) (fun _ _ _ h => h) (Or.inl ⟨by rfl, ?_⟩) hHeld ?_ ?_
  rotate_left
  ·
   rintro w' ⟨y, hb⟩
   go_simp
   with_reducible rfl
  rotate_left
  ·
   simp only [Act.put, List.setIfInBounds_toArray, List.set_cons_zero, List.set_cons_succ, i64_w, i32_w]
   rfl
  refine pure_ (i := 4) (N := some 19) (v := ?_) (a' := ?_) #[true, true, true, true, true, true, true, true, true, false, false, true, false, false, false] rfl rfl (any_of HT_.out (by kernel_rfl)) (fun _ _ _ h => h) (Or.inl ⟨by rfl, ?_⟩) ?_ ?_
  rotate_left
  ·
   intro w'
   go_simp
   with_reducible rfl
  rotate_left
  ·
   simp only [Act.put, List.setIfInBounds_toArray, List.set_cons_zero, List.set_cons_succ, i64_w, i32_w]
   rfl
  refine pure_ (i := 9) (N := some 24) (v := ?_) (a' := ?_) #[true, true, true, true, true, true, true, true, true, true, false, true, false, false, false] rfl rfl (any_of HT_.out (by kernel_rfl)) (fun _ _ _ h => h) (Or.inl ⟨by rfl, ?_⟩) ?_ ?_
  rotate_left
  ·
   intro w'
   go_simp
   with_reducible rfl
  rotate_left
  ·
   simp only [Act.put, List.setIfInBounds_toArray, List.set_cons_zero, List.set_cons_succ, i64_w, i32_w]
   rfl
  refine take_ (i := 10) (N := some 25) (v := ?_) (a' := ?_) #[true, true, true, true, true, true, true, true, true, true, true, true, false, false, false] rfl rfl (take_ofW HT_.out HW_.out (by kernel_rfl)) (fun _ _ _ h => h) (Or.inl ⟨by rfl, ?_⟩) hHeld ?_ ?_
  rotate_left
  ·
   rintro w' ⟨y, hb⟩
   refine exec_lookup (v := gm (Lit.string s.data.toList)) (x := .tmp 23) (y := .tmp 24) ?_ ?_ ?_ (HLK.out w' hb)
   ·
    rfl
   ·
    rfl
   ·
    rfl
  rotate_left
  ·
   simp only [Act.put, List.setIfInBounds_toArray, List.set_cons_zero, List.set_cons_succ, i64_w, i32_w]
   rfl
  refine one_ (i := 12) (N := some 27) #[true, true, true, true, true, true, true, true, true, true, true, true, true, false, false] rfl rfl (one_of HT_.out (by kernel_rfl)) (by decide) (fun K hK => ?_)
  refine value_ (w1 := W0.alloc (.cells #[.int .i64 v] 2)) (v := (.slice (some ⟨W0.heap.size, 0, none⟩) 1 1)) (by rfl) rfl (by go_simp) ?_
  refine hK.out _ _ ⟨((Below.refl W0.heap.size W0).alloc (Nat.le_refl _) _ |>.cell (World.block_lt_of_cell? W0 _ hHeld.1)).trans hHeld.1, ((Below.refl W0.heap.size W0).alloc (Nat.le_refl _) _ |>.block b hA.out.mm.lt).trans hHeld.2⟩ (fun hHeld => ?_)
  clear hK K
  refine norm_ (a' := ?_) ?_ ?_
  rotate_left
  ·
   show Act.put _ (some 27) _ = _
   simp only [Act.put, List.setIfInBounds_toArray, List.set_cons_zero, List.set_cons_succ, i64_w, i32_w]
   rfl
  refine one_ (i := 13) (N := some 28) #[true, true, true, true, true, true, true, true, true, true, true, true, true, true, false] rfl rfl (one_of HT_.out (by kernel_rfl)) (by decide) (fun K hK => ?_)
  refine Kd.R_append_step (Kd.int .i64) (w0 := W0) (W := W0) base (by rfl) (.tmp 25) (.tmp 27) 123 2 (.int .i64 0) 8 rfl Tryz.underlying123 info2_ rfl (by decide) (by omega) (gm (Lit.string s.data.toList)) (f s.data.toList) v [.int .i64 v] F (fun _ => False) rfl rfl (by rfl) (fun _ h => h.elim) (fun k hk => HFR.out k (Nat.le_trans hA.out.size hk)) (hA.out.mm.rows _ trivial) (Below.refl _ _) (Nat.le_trans HBS.out hA.out.size) (by have := HLN.out; omega) ?_
  intro v1 w1 hR hb1 hg1 hat1
  have hgb : some b ≠ (gm (Lit.string s.data.toList)).ownBlock := fun e => (row_no_map (hA.out.mm.rows _ trivial) hA.out.mm.mp).1 b e.symm |>.2 rfl
  have hgg : some g ≠ (gm (Lit.string s.data.toList)).ownBlock := fun e => HGF.out ((hA.out.mm.rows _ trivial).1 g e.symm)
  refine hK.out _ _ ⟨(World.cell?_of_block (w := W0) (hg1.block g (blk_lt hA.out.blk) hgg)).trans hH0.out.1, (hg1.block b hA.out.mm.lt hgb).trans hH0.out.2⟩ (fun hHeld => ?_)
  clear hK K
  refine norm_ (a' := ?_) ?_ ?_
  rotate_left
  ·
   show Act.put _ (some 28) _ = _
   simp only [Act.put, List.setIfInBounds_toArray, List.set_cons_zero, List.set_cons_succ, i64_w, i32_w]
   rfl
  refine last_ (i := 14) (N := none) #[true, true, true, true, true, true, true, true, true, true, true, true, true, true, true] rfl rfl (one_of HT_.out (by kernel_rfl)) (by decide) (fun K hK => ?_)
  obtain ⟨w2, D2, gm2, hrun, hg2, hM2⟩ := MMade.put law9 Tryz.underlying74 hA.out.mm (by have := HN.out; have := hA.out.nb; omega) (kl := (Lit.string s.data.toList)) HKEY.out (fun q hq => HFR.out q (Nat.le_trans hA.out.size hq)) rfl hR hg1 hat1 HF'.out
  refine skip_ (w1 := w2) (by rfl) rfl (by refine exec_mapUpdate (x := .tmp 18) (y := .tmp 19) (z := .tmp 28) ?_ ?_ ?_ ?_ hrun <;> rfl) ?_
  refine hK.out _ _ ?_
  clear hK K
  refine done_ (done_of HT_.out (by kernel_rfl)) ?_
  go_wp2_with (fail)
  go_end0
  refine ⟨⟨_, rfl⟩, .map (some b), ?_, .inr ⟨b, n + 1, D2, gm2, rfl, by have := hA.out.nb; omega, hM2⟩, ?_⟩
  ·
   have hgb2 : g ≠ b := fun e => by
    obtain ⟨es, ck, hh, _⟩ := hA.out.mm.mp
    have h2 := hA.out.blk
    rw [e, hh] at h2
    cases h2
   exact (hg2.block g (by have := blk_lt hA.out.blk; have := hg1.size; omega) (fun e => hgb2 (Option.some.inj e))).trans ((hg1.block g (blk_lt hA.out.blk) hgg).trans hA.out.blk)
  ·
   refine hA.out.chg.trans ((Chg.grown (F := F) hg1 (fun q hq => (hA.out.mm.rows _ trivial).1 q hq)).trans (Chg.grown (F := F) hg2 (fun q hq => by cases hq; exact hA.out.mm.fb)) (fun q hq => .inl hq)) (fun q hq => .inl (.inr hq))
end Go.Proofs.YtefeibndnghejaaGreatDoor.Pr
end
section
set_option linter.unusedVariables false
set_option linter.unusedSimpArgs false
namespace Go.Proofs.YtefeibndnghejaaGreatDoor.Pr
open Go.RowKit Go.Proofs.YtefeibndnghejaaGreatDoorW.PrintWords Go.Proofs.YtefeibndnghejaaGreatDoorW.PrintLast Go.Proofs.YtefeibndnghejaaGreatDoorW.PrintMore
def lists_add2.T3 : Bool × List (List Nat × List Nat) := (true, [([], []), ([0], [0]), ([1], [1]), ([2], [2]), ([], []), ([], []), ([5], [5]), ([6], [6]), ([7], [7]), ([], []), ([8, 9], [8, 9]), ([], []), ([11], [11]), ([10, 12], [10, 12]), ([3, 4, 13, 13, 0, 1, 2, 3, 4, 5, 6, 7, 8, 9, 10, 11, 12, 13], [3, 4, 13])])
def lists_add2.B3 : List Nat := [0, 1, 3, 7, 0, 0, 32, 96, 224, 0, 992, 0, 2048, 8160, 16383]
set_option maxRecDepth 100000 in
theorem lists_add2.tab3 : rtab .any (opsOf Tryz.f72 3) = lists_add2.T3 := by kernel_rfl
set_option maxRecDepth 100000 in
theorem lists_add2.bits3 : waitsOk lists_add2.T3.2 lists_add2.B3 = true := by kernel_rfl
theorem info4_ : (Tryz.prog.info? 4).map (fun i => (i.zero, i.size, i.bytes)) = some (some (.bool false), 1, 1) := by kernel_rfl
structure Add4 (w : World) (g o : Nat) (cs ks : Array Value) (base : Nat) (F : Nat → Prop) (f : (List Int × List Int) → List Bool) (N b n : Nat) (D : DataW Value) (gm : Lit → Value) (W : World) : Prop where
  blk : W.heap[g]? = some (.cells (cs.setIfInBounds o (.map (some b))) 81 (0, 0))
  mm : MMade 102 4 Kd.bool spDom spKey W base F b n D gm f
  nb : n ≤ N
  size : w.heap.size ≤ W.heap.size
  chg : Chg (fun q => q = g ∨ F q) w W
  os : o < cs.size
  key : W.heap[w.heap.size]? = some (.cells ks 102 (0, 0))
  kf : ¬ F w.heap.size
theorem Add4.drew {w : World} {g o : Nat} {cs ks : Array Value} {base : Nat} {F : Nat → Prop} {f : (List Int × List Int) → List Bool} {N b n : Nat} {D : DataW Value} {gm : Lit → Value} {W : World} (h : Add4 w g o cs ks base F f N b n D gm W) : Add4 w g o cs ks base F f N b n D gm W.drew :=
 ⟨h.blk, h.mm.step (fun _ _ _ => rfl), h.nb, h.size, h.chg.then_below (below_drew1 (Below.refl _ _)), h.os, h.key, h.kf⟩
theorem Add4.cell {w : World} {g o : Nat} {cs ks : Array Value} {base : Nat} {F : Nat → Prop} {f : (List Int × List Int) → List Bool} {N b n : Nat} {D : DataW Value} {gm : Lit → Value} {W : World} (h : Add4 w g o cs ks base F f N b n D gm W) : W.cell? ⟨g, o, none⟩ = some (.map (some b)) :=
 (blk_cell h.blk o).trans (by rw [Array.getElem?_setIfInBounds]; simp [h.os])
theorem Add4.klt {w : World} {g o : Nat} {cs ks : Array Value} {base : Nat} {F : Nat → Prop} {f : (List Int × List Int) → List Bool} {N b n : Nat} {D : DataW Value} {gm : Lit → Value} {W : World} (h : Add4 w g o cs ks base F f N b n D gm W) : w.heap.size < W.heap.size := blk_lt h.key
set_option maxRecDepth 100000 in
set_option maxHeartbeats 4000000 in
theorem add_span (g o : Nat) (cs : Array Value) (m : Value) (p : List Int × List Int) (hp : spDom p) (v : Bool) (w : World) (base N : Nat) (F : Nat → Prop) (f : (List Int × List Int) → List Bool) (hb : w.heap[g]? = some (.cells cs 81 (0, 0))) (ho : cs[o]? = some m) (h : MSpn w base F m f N)
  (hN : N < 1099511627776) (hgF : ¬ F g) (hfr : ∀ q, w.heap.size ≤ q → q ≠ w.heap.size → F q) (hkF : ¬ F w.heap.size) (hbase : base ≤ w.heap.size) (hln : (f p).length < 1099511627776) (f' : (List Int × List Int) → List Bool) (hf' : ∀ x, spDom x → f' x = if x = p then f p ++ [v] else f x) :
  Calls Tryz.prog 72 #[.pointer (some ⟨g, o, none⟩), spVal p, .bool v] w fun e w' => (∃ u, e = .returned u) ∧ ∃ m', w'.heap[g]? = some (.cells (cs.setIfInBounds o m') 81 (0, 0)) ∧ MSpn w' base F m' f' (N + 1) ∧ Chg (fun q => q = g ∨ F q) w w' := by
 have hmm : m = .map none ∨ ∃ b, m = .map (some b) := by
  rcases h with ⟨e, _⟩ | ⟨b, _, _, _, e, _⟩
  ·
   exact .inl e
  ·
   exact .inr ⟨b, e⟩
 have HMM := Aside0.mk hmm
 obtain ⟨z, hz, hzg, hz1, hz0⟩ := map_nil_eq 77 Tryz.underlying77 (.tmp 9) (.const (.map none)) m hmm
 have HZ1 := Aside0.mk hz1
 have HZ0 := Aside0.mk hz0
 have hos : o < cs.size := (Array.getElem?_eq_some_iff.1 ho).1
 have H := Aside0.mk h
 have HB := Aside0.mk hb
 have HO := Aside0.mk (And.intro ho hos)
 have HN := Aside0.mk hN
 have HGF := Aside0.mk hgF
 have HFR := Aside0.mk hfr
 have HBS := Aside0.mk hbase
 have HLN := Aside0.mk hln
 have HKEY := Aside0.mk (key102 hp)
 have HF' : Aside0 (∀ x, spDom x → (spKey x = spKey p → f' x = f p ++ [v]) ∧ (spKey x ≠ spKey p → f' x = f x)) := ⟨fun x hx => ⟨fun e => by
  rw [hf' x hx, if_pos (spKey_inj hx hp e)], fun e => by rw [hf' x hx, if_neg (fun e' => e (by rw [e']))]⟩⟩
 have HKF := Aside0.mk hkF
 have HDP := Aside0.mk hp
 obtain ⟨ks, hks⟩ : ∃ ks, ks = (p.1.map (Value.int .u8) ++ p.2.map (Value.int .u8)).toArray := ⟨_, rfl⟩
 have HKS : Aside0 (ks.size = 24) := ⟨by rw [hks]; exact spVal_size hp⟩
 have HKV : Aside0 (spVal p = .agg ks) := ⟨by rw [hks]; rfl⟩
 rw [HKV.out]
 have hlt : g < w.heap.size := blk_lt hb
 have hc0 : (w.alloc (.cells ks 102)).cell? ⟨g, o, none⟩ = some m := (blk_cell (blk_alloc hb _) o).trans ho
 have hf0 : (w.alloc (.cells ks 102)).frozen? ⟨g, o, none⟩ = false := blk_frozen (blk_alloc hb _) o
 have HBW := Aside0.mk (below_alloc (Below.refl w.heap.size w) (.cells ks 102))
 have HB1 := Aside0.mk (blk_alloc hb (.cells ks 102))
 have HKB := Aside0.mk (blk_new w (.cells ks 102))
 have HLT := Aside0.mk hlt
 have H1 := Aside0.mk (MRow.step h (w' := w.alloc (.cells ks 102)) (fun k _ hk => (below_alloc (Below.refl w.heap.size w) (.cells ks 102)).block k hk))
 have HSZ : Aside0 ((w.alloc (.cells ks 102)).heap.size = w.heap.size + 1) := ⟨by simp⟩
 clear hz1 hz0 h hb ho hN hgF hfr hbase hln hmm hf' hos hks hkF hlt hp
 have hmk := @run_makeMap Tryz.prog
 go_enter Tryz.func72, Tryz.ntmps72
 go_upto_if 10 with (fail)
 go_cut [6, 7, 8, 9, 10, 11, 12, 13, 14] (fun _ _ _ _ _ _ _ _ _ wc => ∃ b n D gm, Add4 w g o cs ks base F f N b n D gm wc)
 case first =>
  cases z with
  | false =>
   obtain ⟨b, rfl⟩ := HZ0.out rfl
   rcases H1.out with ⟨e, _⟩ | ⟨b', n, D, gm, e, hn, hM⟩
   ·
    cases e
   obtain rfl : b = b' := by simpa using e
   have hA : Add4 w g o cs ks base F f N b n D gm (w.alloc (.cells ks 102)) := ⟨by
    have e : cs.setIfInBounds o (.map (some b)) = cs := by
     apply Array.ext_getElem?
     intro i
     rw [Array.getElem?_setIfInBounds]
     split
     ·
      rename_i e; subst e; rw [if_pos HO.out.2]; exact HO.out.1.symm
     ·
      rfl
    rw [e]
    exact HB1.out, hM, hn, HBW.out.size, Chg.of_below HBW.out, HO.out.2, HKB.out, HKF.out⟩
   have HA := Aside0.mk hA
   clear hA hM hn e
   go_wp2_with (fail)
   go_meet
   case rel => exact ⟨b, n, D, gm, HA.out⟩
  | true =>
   obtain rfl := HZ1.out rfl
   have hnil : ∀ x, spDom x → f x = [] := by
    rcases H.out with ⟨_, hnil⟩ | ⟨b', n, D, gm, e, hn, hM⟩
    ·
     exact hnil
    ·
     cases e
   have HNIL := Aside0.mk hnil
   clear hnil
   obtain ⟨W1, hW1⟩ : ∃ W1, W1 = w.alloc (.cells ks 102) := ⟨_, rfl⟩
   rw [← hW1] at HBW HB1 HKB H1 HSZ hc0 hf0 ⊢
   have hlt : g < w.heap.size := HLT.out
   have hgW : g < W1.heap.size := by have := HSZ.out; omega
   have hkW : w.heap.size ≠ g := by omega
   have hkW2 : w.heap.size < W1.heap.size := by have := HSZ.out; omega
   have HA : Aside0 (Add4 w g o cs ks base F f N W1.heap.size 0 (.map []) (fun _ => .slice none 0 0) ((W1.alloc (.map #[] 0)).setCell ⟨g, o, none⟩ (.map (some W1.heap.size)))) := by
    have hM := MMade.new 102 4 Kd.bool spDom spKey W1 base F HNIL.out (Nat.le_trans HBS.out HBW.out.size) (HFR.out _ HBW.out.size (by have := HSZ.out; omega))
    exact ⟨⟨blk_set (blk_alloc HB1.out _) o _, hM.step (fun k hk _ => Below.heap_setCell _ _ _ _ (fun e => HGF.out ((show k = g from e) ▸ hk))), Nat.zero_le _, by have := HSZ.out; simp [World.setCell]; omega, (Chg.of_below (below_alloc HBW.out _)).trans (Chg.setCell (F := fun q => q = g ∨ F q) (.inl rfl) _) (fun q hq => .inl hq), HO.out.2, (Below.heap_setCell _ _ _ _ hkW).trans (blk_alloc HKB.out _), HKF.out⟩⟩
   have hcz : (W1.alloc (.map #[] 0)).cell? ⟨g, o, none⟩ = some (.map none) := (blk_cell (blk_alloc HB1.out _) o).trans HO.out.1
   have hfz : (W1.alloc (.map #[] 0)).frozen? ⟨g, o, none⟩ = false := blk_frozen (blk_alloc HB1.out _) o
   clear hlt hgW hkW hkW2 hW1
   go_wp2_with (fail)
   go_meet
   case rel => exact ⟨_, _, _, _, HA.out⟩
 case rest =>
  obtain ⟨b, n, D, gm, hA⟩ := hcut
  have HLK : Aside0 (∀ W : World, W.heap[b]? = wc.heap[b]? → (Instr.lookup 77 (.map (some b)) (.agg ks) false).run Tryz.prog W = .ok (gm (spKey p)) W) := ⟨fun W hW => by
   obtain ⟨u, ps, hr, hv⟩ := (ownsMap_step hA.mm.mp hW).lookup law102 Tryz.underlying77 (Tryz.zeroValue127 _) (show RH (.slice none 0 0) = some (zN, []) from rfl) (HKV.out ▸ HKEY.out)
   rw [hr]
   have hv' : DataW.held u = D.atKey _ zN := (Prod.mk.inj (Option.some.inj hv)).1
   rw [hA.mm.at_] at hv'
   rw [DataW.held.inj hv']⟩
  clear hz hzg hc0 hf0 hmk
  go_upto_region 3 with (fail)
  refine start_ (n := 15) (S := fun w' => w'.cell? ⟨g, o, none⟩ = some (.map (some b)) ∧ w'.heap[b]? = wc.heap[b]? ∧ w'.heap[w.heap.size]? = some (.cells ks 102 (0, 0))) (ds := [14]) #[false, false, false, false, false, false, false, false, false, false, false, false, false, false, false] (by kernel_rfl) rfl rfl ⟨hA.cell, rfl, hA.key⟩ (fun hHeld => ?_)
  refine with_tabW lists_add2.tab3 lists_add2.bits3 (fun HT_ HW_ => ?_)
  replace hA := Aside0.mk (hA.drew)
  generalize wc.drew = W0 at hHeld hA ⊢
  have hH0 := Aside0.mk hHeld
  refine pure_ (i := 0) (N := some 15) (v := ?_) (a' := ?_) #[true, false, false, false, false, false, false, false, false, false, false, false, false, false, false] rfl rfl (any_of HT_.out (by kernel_rfl)) (fun _ _ _ h => h) (Or.inl ⟨by rfl, ?_⟩) ?_ ?_
  rotate_left
  ·
   intro w'
   go_simp
   with_reducible rfl
  rotate_left
  ·
   simp only [Act.put, List.setIfInBounds_toArray, List.set_cons_zero, List.set_cons_succ, i64_w, i32_w]
   rfl
  refine pure_ (i := 1) (N := some 16) (v := ?_) (a' := ?_) #[true, true, false, false, false, false, false, false, false, false, false, false, false, false, false] rfl rfl (any_of HT_.out (by kernel_rfl)) (fun _ _ _ h => h) (Or.inl ⟨by rfl, ?_⟩) ?_ ?_
  rotate_left
  ·
   intro w'
   go_simp
   with_reducible rfl
  rotate_left
  ·
   simp only [Act.put, List.setIfInBounds_toArray, List.set_cons_zero, List.set_cons_succ, i64_w, i32_w]
   rfl
  refine pure_ (i := 2) (N := some 17) (v := ?_) (a' := ?_) #[true, true, true, false, false, false, false, false, false, false, false, false, false, false, false] rfl rfl (any_of HT_.out (by kernel_rfl)) (fun _ _ _ h => h) (Or.inl ⟨by rfl, ?_⟩) ?_ ?_
  rotate_left
  ·
   intro w'
   go_simp
   with_reducible rfl
  rotate_left
  ·
   simp only [Act.put, List.setIfInBounds_toArray, List.set_cons_zero, List.set_cons_succ, i64_w, i32_w]
   rfl
  refine pure_ (i := 5) (N := some 20) (v := ?_) (a' := ?_) #[true, true, true, false, false, true, false, false, false, false, false, false, false, false, false] rfl rfl (any_of HT_.out (by kernel_rfl)) (fun _ _ _ h => h) (Or.inl ⟨by rfl, ?_⟩) ?_ ?_
  rotate_left
  ·
   intro w'
   go_simp
   with_reducible rfl
  rotate_left
  ·
   simp only [Act.put, List.setIfInBounds_toArray, List.set_cons_zero, List.set_cons_succ, i64_w, i32_w]
   rfl
  refine pure_ (i := 6) (N := some 21) (v := ?_) (a' := ?_) #[true, true, true, false, false, true, true, false, false, false, false, false, false, false, false] rfl rfl (any_of HT_.out (by kernel_rfl)) (fun _ _ _ h => h) (Or.inl ⟨by rfl, ?_⟩) ?_ ?_
  rotate_left
  ·
   intro w'
   go_simp
   with_reducible rfl
  rotate_left
  ·
   simp only [Act.put, List.setIfInBounds_toArray, List.set_cons_zero, List.set_cons_succ, i64_w, i32_w]
   rfl
  refine pure_ (i := 7) (N := some 22) (v := ?_) (a' := ?_) #[true, true, true, false, false, true, true, true, false, false, false, false, false, false, false] rfl rfl (any_of HT_.out (by kernel_rfl)) (fun _ _ _ h => h) (Or.inl ⟨by rfl, ?_⟩) ?_ ?_
  rotate_left
  ·
   intro w'
   go_simp
   with_reducible rfl
  rotate_left
  ·
   simp only [Act.put, List.setIfInBounds_toArray, List.set_cons_zero, List.set_cons_succ, i64_w, i32_w]
   rfl
  refine pure_ (i := 11) (N := some 26) (v := ?_) (a' := ?_) #[true, true, true, false, false, true, true, true, false, false, false, true, false, false, false] rfl rfl (any_of HT_.out (by kernel_rfl)) (fun _ _ _ h => h) (Or.inl ⟨by rfl, ?_⟩) ?_ ?_
  rotate_left
  ·
   intro w'
   go_simp
   with_reducible rfl
  rotate_left
  ·
   simp only [Act.put, List.setIfInBounds_toArray, List.set_cons_zero, List.set_cons_succ, i64_w, i32_w]
   rfl
  refine take_ (i := 3) (N := some 18) (v := ?_) (a' := ?_) #[true, true, true, true, false, true, true, true, false, false, false, true, false, false, false] rfl rfl (take_ofW HT_.out HW_.out (by kernel_rfl)) (fun _ _ _ h => h) (Or.inl ⟨by rfl, ?_⟩) hHeld ?_ ?_
  rotate_left
  ·
   rintro w' ⟨y, hb, hk⟩
   go_simp
   with_reducible rfl
  rotate_left
  ·
   simp only [Act.put, List.setIfInBounds_toArray, List.set_cons_zero, List.set_cons_succ, i64_w, i32_w]
   rfl
  refine take_ (i := 8) (N := some 23) (v := ?_) (a' := ?_) #[true, true, true, true, false, true, true, true, true, false, false, true, false, false, false] rfl rfl (take_ofW HT_.out HW_.out (by kernel_rfl)) (fun _ _ _ h => h) (Or.inl ⟨by rfl, ?_⟩) hHeld ?_ ?_
  rotate_left
  ·
   rintro w' ⟨y, hb, hk⟩
   go_simp
   with_reducible rfl
  rotate_left
  ·
   simp only [Act.put, List.setIfInBounds_toArray, List.set_cons_zero, List.set_cons_succ, i64_w, i32_w]
   rfl
  refine take_ (i := 4) (N := some 19) (v := ?_) (a' := ?_) #[true, true, true, true, true, true, true, true, true, false, false, true, false, false, false] rfl rfl (take_ofW HT_.out HW_.out (by kernel_rfl)) (fun _ _ _ h => h) (Or.inl ⟨by rfl, ?_⟩) hHeld ?_ ?_
  rotate_left
  ·
   rintro w' ⟨y, hb, hk⟩
   refine exec_load102 (x := .tmp 4) ?_ ?_ hk HKS.out
   ·
    rfl
   ·
    rfl
  rotate_left
  ·
   simp only [Act.put, List.setIfInBounds_toArray, List.set_cons_zero, List.set_cons_succ, i64_w, i32_w]
   rfl
  refine take_ (i := 9) (N := some 24) (v := ?_) (a' := ?_) #[true, true, true, true, true, true, true, true, true, true, false, true, false, false, false] rfl rfl (take_ofW HT_.out HW_.out (by kernel_rfl)) (fun _ _ _ h => h) (Or.inl ⟨by rfl, ?_⟩) hHeld ?_ ?_
  rotate_left
  ·
   rintro w' ⟨y, hb, hk⟩
   refine exec_load102 (x := .tmp 4) ?_ ?_ hk HKS.out
   ·
    rfl
   ·
    rfl
  rotate_left
  ·
   simp only [Act.put, List.setIfInBounds_toArray, List.set_cons_zero, List.set_cons_succ, i64_w, i32_w]
   rfl
  refine take_ (i := 10) (N := some 25) (v := ?_) (a' := ?_) #[true, true, true, true, true, true, true, true, true, true, true, true, false, false, false] rfl rfl (take_ofW HT_.out HW_.out (by kernel_rfl)) (fun _ _ _ h => h) (Or.inl ⟨by rfl, ?_⟩) hHeld ?_ ?_
  rotate_left
  ·
   rintro w' ⟨y, hb, hk⟩
   refine exec_lookup (v := gm (spKey p)) (x := .tmp 23) (y := .tmp 24) ?_ ?_ ?_ (HLK.out w' hb)
   ·
    rfl
   ·
    rfl
   ·
    rfl
  rotate_left
  ·
   simp only [Act.put, List.setIfInBounds_toArray, List.set_cons_zero, List.set_cons_succ, i64_w, i32_w]
   rfl
  refine one_ (i := 12) (N := some 27) #[true, true, true, true, true, true, true, true, true, true, true, true, true, false, false] rfl rfl (one_of HT_.out (by kernel_rfl)) (by decide) (fun K hK => ?_)
  refine value_ (w1 := W0.alloc (.cells #[.bool v] 4)) (v := (.slice (some ⟨W0.heap.size, 0, none⟩) 1 1)) (by rfl) rfl (by go_simp) ?_
  refine hK.out _ _ ⟨((Below.refl W0.heap.size W0).alloc (Nat.le_refl _) _ |>.cell (World.block_lt_of_cell? W0 _ hHeld.1)).trans hHeld.1, ((Below.refl W0.heap.size W0).alloc (Nat.le_refl _) _ |>.block b hA.out.mm.lt).trans hHeld.2.1, ((Below.refl W0.heap.size W0).alloc (Nat.le_refl _) _ |>.block w.heap.size hA.out.klt).trans hHeld.2.2⟩ (fun hHeld => ?_)
  clear hK K
  refine norm_ (a' := ?_) ?_ ?_
  rotate_left
  ·
   show Act.put _ (some 27) _ = _
   simp only [Act.put, List.setIfInBounds_toArray, List.set_cons_zero, List.set_cons_succ, i64_w, i32_w]
   rfl
  refine one_ (i := 13) (N := some 28) #[true, true, true, true, true, true, true, true, true, true, true, true, true, true, false] rfl rfl (one_of HT_.out (by kernel_rfl)) (by decide) (fun K hK => ?_)
  refine Kd.R_append_step Kd.bool (w0 := W0) (W := W0) base (by rfl) (.tmp 25) (.tmp 27) 127 4 (.bool false) 1 rfl Tryz.underlying127 info4_ rfl (by decide) (by omega) (gm (spKey p)) (f p) v [.bool v] F (fun _ => False) rfl rfl (by rfl) (fun _ h => h.elim) (fun k hk => HFR.out k (Nat.le_trans hA.out.size hk) (by have := hA.out.klt; omega)) (hA.out.mm.rows _ HDP.out) (Below.refl _ _) (Nat.le_trans HBS.out hA.out.size) (by have := HLN.out; omega) ?_
  intro v1 w1 hR hb1 hg1 hat1
  have hgb : some b ≠ (gm (spKey p)).ownBlock := fun e => (row_no_map (hA.out.mm.rows _ HDP.out) hA.out.mm.mp).1 b e.symm |>.2 rfl
  have hgg : some g ≠ (gm (spKey p)).ownBlock := fun e => HGF.out ((hA.out.mm.rows _ HDP.out).1 g e.symm)
  have hgk : some w.heap.size ≠ (gm (spKey p)).ownBlock := fun e => hA.out.kf ((hA.out.mm.rows _ HDP.out).1 _ e.symm)
  refine hK.out _ _ ⟨(World.cell?_of_block (w := W0) (hg1.block g (blk_lt hA.out.blk) hgg)).trans hH0.out.1, (hg1.block b hA.out.mm.lt hgb).trans hH0.out.2.1, (hg1.block _ hA.out.klt hgk).trans hH0.out.2.2⟩ (fun hHeld => ?_)
  clear hK K
  refine norm_ (a' := ?_) ?_ ?_
  rotate_left
  ·
   show Act.put _ (some 28) _ = _
   simp only [Act.put, List.setIfInBounds_toArray, List.set_cons_zero, List.set_cons_succ, i64_w, i32_w]
   rfl
  refine last_ (i := 14) (N := none) #[true, true, true, true, true, true, true, true, true, true, true, true, true, true, true] rfl rfl (one_of HT_.out (by kernel_rfl)) (by decide) (fun K hK => ?_)
  obtain ⟨w2, D2, gm2, hrun, hg2, hM2⟩ := MMade.put law102 Tryz.underlying77 hA.out.mm (by have := HN.out; have := hA.out.nb; omega) (kl := (spKey p)) (HKV.out ▸ HKEY.out) (fun q hq => HFR.out q (Nat.le_trans hA.out.size hq) (by have := hA.out.klt; omega)) rfl hR hg1 hat1 HF'.out
  refine skip_ (w1 := w2) (by rfl) rfl (by refine exec_mapUpdate (x := .tmp 18) (y := .tmp 19) (z := .tmp 28) ?_ ?_ ?_ ?_ hrun <;> rfl) ?_
  refine hK.out _ _ ?_
  clear hK K
  refine done_ (done_of HT_.out (by kernel_rfl)) ?_
  go_wp2_with (fail)
  go_end0
  refine ⟨⟨_, rfl⟩, .map (some b), ?_, .inr ⟨b, n + 1, D2, gm2, rfl, by have := hA.out.nb; omega, hM2⟩, ?_⟩
  ·
   have hgb2 : g ≠ b := fun e => by
    obtain ⟨es, ck, hh, _⟩ := hA.out.mm.mp
    have h2 := hA.out.blk
    rw [e, hh] at h2
    cases h2
   exact (hg2.block g (by have := blk_lt hA.out.blk; have := hg1.size; omega) (fun e => hgb2 (Option.some.inj e))).trans ((hg1.block g (blk_lt hA.out.blk) hgg).trans hA.out.blk)
  ·
   refine hA.out.chg.trans ((Chg.grown (F := F) hg1 (fun q hq => (hA.out.mm.rows _ HDP.out).1 q hq)).trans (Chg.grown (F := F) hg2 (fun q hq => by cases hq; exact hA.out.mm.fb)) (fun q hq => .inl hq)) (fun q hq => .inl (.inr hq))
end Go.Proofs.YtefeibndnghejaaGreatDoor.Pr
end
section
set_option linter.unusedVariables false
set_option linter.unusedSimpArgs false
namespace Go.Proofs.YtefeibndnghejaaGreatDoor.Pr
open Go.RowKit Go.Proofs.YtefeibndnghejaaGreatDoorW.PrintWords Go.Proofs.YtefeibndnghejaaGreatDoorW.PrintLast Go.Proofs.YtefeibndnghejaaGreatDoorW.PrintMore
structure Rd where
  x : Rc
  a : List S85
theorem Rc.len {x : Rc} (h : x.ok) (v : Value) : (x.cells v).toList.length = 40 := by rw [Array.length_toList, Rc.size h]
theorem Rc.one_all (x : Rc) {v : Value} (hv : v.oneCell' = true) : ∀ u ∈ (x.cells v).toList, u.oneCell' = true := by
 have := Rc.ones x hv
 rw [← Array.all_toList] at this
 exact fun u hu => List.all_eq_true.1 this u hu
theorem u8_inj : ∀ {a b : List Int}, a.map (Value.int .u8) = b.map (Value.int .u8) → a = b
 | [], [], _ => rfl
 | [], y :: b, h => by simp at h
 | x :: a, [], h => by simp at h
 | x :: a, y :: b, h => by
  simp only [List.map_cons, List.cons.injEq] at h
  obtain ⟨h1, h2⟩ := h
  injection h1 with _ h1
  rw [h1, u8_inj h2]
theorem Rc.inj {x y : Rc} {u v : Value} (hx : x.ok) (hy : y.ok) (h : (x.cells u).toList = (y.cells v).toList) : x = y ∧ u = v := by
 have hm : ∀ {a b : List Int}, a.map (Value.int .u8) = b.map (Value.int .u8) → a = b := u8_inj
 obtain ⟨k, nm, tm, tw, vv, lv, tx, tr, sid, pa⟩ := x
 obtain ⟨k', nm', tm', tw', vv', lv', tx', tr', sid', pa'⟩ := y
 have h1 := hx.tr; have h2 := hx.sid; have h3 := hy.tr; have h4 := hy.sid
 simp only at h1 h2 h3 h4
 simp only [Rc.cells, List.toList_toArray, List.cons_append, List.nil_append, List.cons.injEq] at h
 obtain ⟨e0, e1, e2, e3, e4, e5, e6, e7, e8⟩ := h
 have ht := List.append_inj e8 (by simp [h1, h3])
 have hs := List.append_inj ht.2 (by simp [h2, h4])
 injection e0 with _ e0; injection e1 with e1; injection e3 with _ e3; injection e4 with _ e4; injection e5 with _ e5; injection e6 with _ e6; injection e7 with e7
 subst e0; subst e1; subst e3; subst e4; subst e5; subst e6; subst e7
 exact ⟨by rw [hm ht.1, hm hs.1, hm hs.2], e2⟩
def kRc : Kd Rd where
  sz := 40
  E := 85 :: k85.E
  K := fun w r cs => r.x.ok ∧ ∃ A c, cs = (r.x.cells (.slice A r.a.length c)).toList ∧ r.a.length ≤ c ∧ k85.C w A r.a.length r.a
  M := fun w base ok r cs => r.x.ok ∧ ∃ v, cs = (r.x.cells v).toList ∧ k85.R 85 w base ok v r.a
  K_len := by
    rintro w r cs ⟨ho, A, c, rfl, _⟩
    exact Rc.len ho _
  K_one := by
    rintro w r cs ⟨ho, A, c, rfl, _⟩ u hu
    exact Rc.one_all _ rfl u hu
  K_below := by
    rintro w w1 r cs hb ⟨ho, A, c, rfl, hl, hr⟩
    exact ⟨ho, A, c, rfl, hl, Kd.C_below hr hb⟩
  K_of_M := by
    rintro w base ok r cs ⟨ho, v, rfl, h⟩
    obtain ⟨A, c, rfl, hl, hr⟩ := Kd.R_reads h
    exact ⟨ho, A, c, rfl, hl, hr⟩
  M_mono := by
    rintro w base ok ok' r cs hok ⟨ho, v, rfl, h⟩
    exact ⟨ho, v, rfl, Kd.R_mono h hok⟩
  M_bound := by
    rintro w base ok r cs ⟨ho, v, rfl, h⟩
    exact ⟨ho, v, rfl, Kd.R_bound h⟩
  M_move := by
    rintro w w1 base ok r cs hm ⟨ho, v, rfl, h⟩
    exact ⟨ho, v, rfl, Kd.R_move h hm⟩
  M_lower := by
    rintro w base base' ok r cs hb ⟨ho, v, rfl, h⟩
    exact ⟨ho, v, rfl, Kd.R_lower h hb⟩
end Go.Proofs.YtefeibndnghejaaGreatDoor.Pr
end
section
set_option linter.unusedVariables false
set_option linter.unusedSimpArgs false
namespace Go.Proofs.YtefeibndnghejaaGreatDoor.Pr
open Go.RowKit Go.Shelf Go.Proofs.YtefeibndnghejaaGreatDoorW.PrintWords Go.Proofs.YtefeibndnghejaaGreatDoorW.PrintLast Go.Proofs.YtefeibndnghejaaGreatDoorW.PrintMore
attribute [local go_sem] Oper.semAt_some
theorem rd_map {α : Type} (φ : α → S85) (ys : List α) (k : Nat) (h : k < ys.length) : rd_T85 (ys.map φ) (k : Int) = φ ys[k] := by
 simp [rd_T85, h]
theorem take_get {α : Type} (ys : List α) (k : Nat) (h : k < ys.length) : ys.take (k + 1) = ys.take k ++ [ys[k]] := by simp
set_option maxRecDepth 100000 in
set_option maxHeartbeats 2000000 in
theorem each1_in {α : Type} (φ : α → S85) (ys : List α) (F : Fence) (n : Nat) (h44 : F.fn 123) (hro : F.round = none) (hn : 1 ≤ n) (l Bs c : Nat) (A : Option Addr) (xs : List S85) (hxs : ys.map φ = xs) (w0 : World) (hC : k85.C w0 A xs.length xs) (hcap : xs.length ≤ c) (J Jx : List α → World → Prop) (hJa : ∀ pre W o, Below w0.heap.size w0 W → J pre W → J pre (W.alloc o))
  (hY : ∀ pre x W, J pre W → pre.length < xs.length → YieldAt F (n - 1) Tryz.prog l #[.string (φ x).f0, .string (φ x).f1] W fun e W' =>
   (e = .returned (.bool true) ∧ J (pre ++ [x]) W' ∧ Below w0.heap.size W W') ∨ (e = .returned (.bool false) ∧ Jx (pre ++ [x]) W'))
  (W : World) (hW : Below w0.heap.size w0 W) (hBs : W.cell? ⟨Bs, 0, none⟩ = some (.slice A xs.length c)) (h0 : J [] W) :
  CallsIn F n Tryz.prog 123 #[.func (.yield l) #[] #[], .pointer (some ⟨Bs, 0, none⟩)] W fun e W' => (∃ v, e = .returned v) ∧
   ((∃ zs, zs = ys ∧ J zs W') ∨ (∃ pre, pre <+: ys ∧ Jx pre W')) := by
 have hlen : ys.length = xs.length := by rw [← hxs, List.length_map]
 refine callsIn_of_wp Tryz.func123 rfl h44 ?_ hro
 simp only [Tryz.ntmps123, List.size_toArray, List.length_cons, List.length_nil, Nat.reduceAdd, Nat.reduceSub, Array.replicate_succ, Array.replicate_zero, List.push_toArray, List.append_toArray, List.nil_append, List.cons_append]
 gi_wp2
 gi_loopw [7] (fun i wr => ∃ k : Nat, k ≤ xs.length ∧ i = .int .i64 k ∧ J (ys.take k) wr ∧ Below w0.heap.size w0 wr)
  (fun i _ => xs.length - (intOf i).toNat)
 case atStart => exact ⟨0, Nat.zero_le _, rfl, h0, hW⟩
 case round =>
  obtain ⟨k, hk, rfl, hJk, hB⟩ := hrel
  by_cases hlt : k < xs.length
  ·
   obtain ⟨ad, e, hx0, hx1⟩ := at_T85 hC (k : Int) (by omega) (by omega)
   subst e
   replace hx0 := (hB.cell (World.block_lt_of_cell? w0 _ hx0)).trans hx0
   replace hx1 := (hB.cell (World.block_lt_of_cell? w0 _ hx1)).trans hx1
   rw [Int.toNat_natCast] at hx0 hx1
   have hmx := (flat85.C hC).2.1
   have hw : wrap64 ((k : Int) + 1) = (k : Int) + 1 := by unfold wrap64; omega
   have hbl : (k : Int) < (xs.length : Int) := by omega
   have HB := Aside0.mk hB
   have hky : k < ys.length := by omega
   have hrd : φ ys[k] = rd_T85 xs (k : Int) := by subst hxs; exact (rd_map φ ys k hky).symm
   have hY' := hY (ys.take k) ys[k]
   rw [hrd] at hY'
   obtain ⟨fn, tmps, assign, body, hy, hR⟩ := hY' (wr.alloc (.cells #[.string (rd_T85 xs (k : Int)).f0, .string (rd_T85 xs (k : Int)).f1] 85)) (hJa _ _ _ hB hJk) (by simp; omega)
   gi_wp2
   refine hR.mono ?_
   rintro e W3 (⟨rfl, hJ3, hk3⟩ | ⟨rfl, hJx3⟩)
   ·
    have HB3 := Aside0.mk ((HB.out.alloc HB.out.size _).trans hk3)
    clear hk3
    gi_wp2
    go_roundw
    case rel => exact ⟨k + 1, by omega, by simp [hw], by rw [take_get ys k hky]; exact hJ3, HB3.out⟩
    case measure => simp [intOf, hw]; omega
   ·
    gi_wp2
    refine bodyPost_ret (results_none rfl _ _ _) rfl ?_
    exact ⟨⟨_, rfl⟩, .inr ⟨_, ⟨ys.drop (k + 1), by rw [← take_get ys k hky]; exact List.take_append_drop _ _⟩, hJx3⟩⟩
  ·
   obtain rfl : k = xs.length := by omega
   gi_wp2
   go_end0
   exact ⟨⟨_, rfl⟩, .inl ⟨_, by rw [← hlen]; exact List.take_length, hJk⟩⟩
set_option maxHeartbeats 1000000 in
theorem each_in (F : Fence) (n : Nat) (h27 : F.fn 105) (hro : F.round = none) (A : Option Addr) (len c : Nat) (w : World) :
  CallsIn F n Tryz.prog 105 #[.slice A len c] w fun e w' => e = .returned (.func (.func 123) #[] #[.pointer (some ⟨w.heap.size, 0, none⟩)]) ∧ w' = w.alloc (.cells #[.slice A len c] 32) := by
 refine callsIn_of_wp Tryz.func105 rfl h27 ?_ hro
 simp only [Tryz.ntmps105, List.size_toArray, List.length_cons, List.length_nil, Nat.reduceAdd, Nat.reduceSub, Array.replicate_succ, Array.replicate_zero, List.push_toArray, List.append_toArray, List.nil_append, List.cons_append]
 gi_wp2
 go_ret
 exact ⟨rfl, rfl⟩
theorem each_stops {α : Type} (φ : α → S85) (ys : List α) (F : Fence) (n : Nat) (h44 : F.fn 123) (hro : F.round = none) (hn : 1 ≤ n) (Bs c : Nat) (A : Option Addr) (xs : List S85) (hxs : ys.map φ = xs) (w0 w : World) (hC : k85.C w0 A xs.length xs) (hcap : xs.length ≤ c) (hB : Below w0.heap.size w0 w) (hBs : w.cell? ⟨Bs, 0, none⟩ = some (.slice A xs.length c)) :
  SeqStopsK F n Tryz.prog 123 #[.pointer (some ⟨Bs, 0, none⟩)] (fun x : α => #[.string (φ x).f0, .string (φ x).f1]) (Below w0.heap.size) (fun zs => zs = ys) (fun pre => pre <+: ys) xs.length w := fun l J Jx W hW hJ hJx hY h0 =>
 each1_in φ ys F n h44 hro hn l Bs c A xs hxs w0 hC hcap J Jx (fun pre W1 o _ h => hJ pre W1 _ none h (World.grownBy_alloc W1 o none) (fun r e => by cases e)) hY W (hB.trans (hW.mono hB.size)) ((hW.cell (World.block_lt_of_cell? w _ hBs)).trans hBs) h0
end Go.Proofs.YtefeibndnghejaaGreatDoor.Pr
end
