import Derived.Test.YtefeibndnghejaaGreatDoorJn9
import Derived.Deep.MidRow
import Derived.Test.YtefeibndnghejaaGreatDoorJn5
import Derived.Lib.SliceRun
import Derived.Great.CaseRows
section
set_option linter.unusedVariables false
set_option linter.unusedSimpArgs false
namespace Go.Proofs.YtefeibndnghejaaGreatDoor.Pr
open Go.RowKit Go.Proofs.YtefeibndnghejaaGreatDoorW.PrintWords Go.Proofs.YtefeibndnghejaaGreatDoorW.PrintLast Go.Proofs.YtefeibndnghejaaGreatDoorW.PrintMore
def timesOf (R : List Rd) (s : List UInt8) : List Int := (R.filter fun r => decide (r.x.kd = 1 ∧ (skeyB r).data.toList = s)).map fun r => r.x.tm
def spansOf (R : List Rd) (p : List Int × List Int) : List Bool := (R.filter fun r => decide (r.x.kd = 3 ∧ (r.x.tr, r.x.sid) = p)).map fun _ => true
theorem timesOf_len (R : List Rd) (s : List UInt8) : (timesOf R s).length ≤ R.length := by
 unfold timesOf
 rw [List.length_map]
 exact List.length_filter_le _ _
theorem spansOf_len (R : List Rd) (p : List Int × List Int) : (spansOf R p).length ≤ R.length := by
 unfold spansOf
 rw [List.length_map]
 exact List.length_filter_le _ _
theorem timesOf_snoc (R : List Rd) (r : Rd) (s : List UInt8) : timesOf (R ++ [r]) s = timesOf R s ++ if r.x.kd = 1 ∧ (skeyB r).data.toList = s then [r.x.tm] else [] := by
 unfold timesOf
 rw [List.filter_append, List.map_append]
 congr 1
 by_cases h : r.x.kd = 1 ∧ (skeyB r).data.toList = s
 ·
  rw [if_pos h, List.filter_cons, if_pos (decide_eq_true h)]
  rfl
 ·
  rw [if_neg h, List.filter_cons, if_neg (by simpa using h)]
  rfl
theorem spansOf_snoc (R : List Rd) (r : Rd) (p : List Int × List Int) : spansOf (R ++ [r]) p = spansOf R p ++ if r.x.kd = 3 ∧ (r.x.tr, r.x.sid) = p then [true] else [] := by
 unfold spansOf
 rw [List.filter_append, List.map_append]
 congr 1
 by_cases h : r.x.kd = 3 ∧ (r.x.tr, r.x.sid) = p
 ·
  rw [if_pos h, List.filter_cons, if_pos (decide_eq_true h)]
  rfl
 ·
  rw [if_neg h, List.filter_cons, if_neg (by simpa using h)]
  rfl
theorem timesOf_snoc1 {R : List Rd} {r : Rd} (h : r.x.kd = 1) (s : List UInt8) : timesOf (R ++ [r]) s = if s = (skeyB r).data.toList then timesOf R (skeyB r).data.toList ++ [r.x.tm] else timesOf R s := by
 rw [timesOf_snoc]
 by_cases e : s = (skeyB r).data.toList
 ·
  rw [if_pos ⟨h, e.symm⟩, if_pos e, e]
 ·
  rw [if_neg (fun q => e q.2.symm), if_neg e, List.append_nil]
theorem timesOf_snoc0 {R : List Rd} {r : Rd} (h : r.x.kd ≠ 1) (s : List UInt8) : timesOf (R ++ [r]) s = timesOf R s := by
 rw [timesOf_snoc, if_neg (fun q => h q.1), List.append_nil]
theorem spansOf_snoc3 {R : List Rd} {r : Rd} (h : r.x.kd = 3) (p : List Int × List Int) : spansOf (R ++ [r]) p = if p = (r.x.tr, r.x.sid) then spansOf R (r.x.tr, r.x.sid) ++ [true] else spansOf R p := by
 rw [spansOf_snoc]
 by_cases e : p = (r.x.tr, r.x.sid)
 ·
  rw [if_pos ⟨h, e.symm⟩, if_pos e, e]
 ·
  rw [if_neg (fun q => e q.2.symm), if_neg e, List.append_nil]
theorem spansOf_snoc0 {R : List Rd} {r : Rd} (h : r.x.kd ≠ 3) (p : List Int × List Int) : spansOf (R ++ [r]) p = spansOf R p := by
 rw [spansOf_snoc, if_neg (fun q => h q.1), List.append_nil]
structure Mp (w : World) (base : Nat) (F : Nat → Prop) (g : Nat) (most : Int) (l : Value) (ver : Int) (R : List Rd) (N : Nat) (m1 m2 : Value) (F1 F2 : Nat → Prop) : Prop where
  blk : w.heap[g]? = some (.cells (stC most l m1 m2 ver) 81 (0, 0))
  ser : MSer w base F1 m1 (timesOf R) N
  spn : MSpn w base F2 m2 (spansOf R) N
  in1 : ∀ q, F1 q → F q
  in2 : ∀ q, F2 q → F q
  ap : ∀ q, F1 q → ¬ F2 q
  ng : ¬ F g
theorem exec_load36 {ρ : Operand → Value} {o : Oper} {x : Operand} (ho : o.op = .load 36 x) {g : Nat} (hx : ρ x = .pointer (some ⟨g, 0, none⟩)) {W : World} {cs : Array Value} (hg : W.heap[g]? = some (.cells cs 36 (0, 0))) (hs : cs.size = 40) :
  (execOp ρ o).run Tryz.prog W = .ok (.value (.agg cs)) W := by
 unfold execOp
 simp only [ho, hx, Instr.loadAt, Instr.sureAddr, Sem.run_bind, Sem.run_pure, Result.andThen_ok, run_loadVar_row (P := Tryz.prog) W g 36 36 cs (0, 0) _ hg Tryz.underlying36 rfl (by rw [hs]; kernel_rfl)]
theorem exec_mid33 {ρ : Operand → Value} {o : Oper} {x : Operand} (ho : o.op = .load 33 x) {g i : Nat} (hx : ρ x = .pointer (some ⟨g, i, none⟩)) {W : World} {cs : List Value} (hg : W.rangeAt g i cs) (hs : cs.length = 16) :
  (execOp ρ o).run Tryz.prog W = .ok (.value (.agg cs.toArray)) W := by
 unfold execOp
 simp only [ho, hx, Instr.loadAt, Instr.sureAddr, Sem.run_bind, Sem.run_pure, Result.andThen_ok, run_loadVar_mid (P := Tryz.prog) W g i 33 cs _ hg Tryz.underlying33 rfl (by rw [hs]; kernel_rfl)]
theorem exec_mid34 {ρ : Operand → Value} {o : Oper} {x : Operand} (ho : o.op = .load 34 x) {g i : Nat} (hx : ρ x = .pointer (some ⟨g, i, none⟩)) {W : World} {cs : List Value} (hg : W.rangeAt g i cs) (hs : cs.length = 8) :
  (execOp ρ o).run Tryz.prog W = .ok (.value (.agg cs.toArray)) W := by
 unfold execOp
 simp only [ho, hx, Instr.loadAt, Instr.sureAddr, Sem.run_bind, Sem.run_pure, Result.andThen_ok, run_loadVar_mid (P := Tryz.prog) W g i 34 cs _ hg Tryz.underlying34 rfl (by rw [hs]; kernel_rfl)]
set_option maxRecDepth 100000 in
theorem exec_build102 {ρ : Operand → Value} {o : Oper} {x y : Operand} {p : List Int × List Int} (hp : spDom p) (ho : o.op = .build 102 #[(0, x), (1, y)]) (hx : ρ x = .agg (p.1.map (Value.int .u8)).toArray) (hy : ρ y = .agg (p.2.map (Value.int .u8)).toArray) {W : World} :
  (execOp ρ o).run Tryz.prog W = .ok (.value (spVal p)) W := by
 obtain ⟨tr, sid⟩ := p
 obtain ⟨a0, a1, a2, a3, a4, a5, a6, a7, a8, a9, a10, a11, a12, a13, a14, a15, rfl⟩ := list16 tr hp.1
 obtain ⟨b0, b1, b2, b3, b4, b5, b6, b7, rfl⟩ := list8 sid hp.2.1
 unfold execOp
 simp only [ho, hx, hy, List.map_toArray, List.map_cons, List.map_nil]
 go_simp
 rfl
theorem Rc.mid8 {x : Rc} (h : x.ok) (v : Value) (j : Nat) (u : Value) (hj : (x.tr.map (Value.int .u8))[j]? = some u) : (x.cells v)[8 + j]? = some u := by
 have hl := (List.getElem?_eq_some_iff.1 hj).1
 rw [List.length_map] at hl
 simp only [Rc.cells, List.getElem?_toArray]
 rw [List.getElem?_append_right (by simp), List.getElem?_append_left (by simpa using hl)]
 simpa using hj
theorem Rc.mid24 {x : Rc} (h : x.ok) (v : Value) (j : Nat) (u : Value) (hj : (x.sid.map (Value.int .u8))[j]? = some u) : (x.cells v)[24 + j]? = some u := by
 have hl := (List.getElem?_eq_some_iff.1 hj).1
 rw [List.length_map] at hl
 simp only [Rc.cells, List.getElem?_toArray]
 rw [List.getElem?_append_right (by simp; omega), List.getElem?_append_right (by simp [h.tr]; omega), List.getElem?_append_left (by simp [h.tr]; omega)]
 simp only [List.length_map, h.tr, List.length_cons, List.length_nil]
 rw [show 24 + j - 8 - 16 = j by omega]
 exact hj
def store_note.T3 : Bool × List (List Nat × List Nat) := (true, [([], []), ([0], [0]), ([1], [1]), ([], []), ([3], [3]), ([], []), ([5], [5]), ([2, 4, 6, 4], [2, 4, 6])])
def store_note.B3 : List Nat := [0, 1, 3, 0, 8, 0, 32, 127]
set_option maxRecDepth 100000 in
theorem store_note.tab3 : rtab .any (opsOf Tryz.f40 3) = store_note.T3 := by kernel_rfl
set_option maxRecDepth 100000 in
theorem store_note.bits3 : waitsOk store_note.T3.2 store_note.B3 = true := by kernel_rfl
def store_note.T5 : Bool × List (List Nat × List Nat) := (true, [([], []), ([0], [0]), ([1], [1]), ([], []), ([3], [3]), ([], []), ([5], [5]), ([4, 6], [4, 6]), ([2, 7], [2, 7])])
def store_note.B5 : List Nat := [0, 1, 3, 0, 8, 0, 32, 120, 255]
set_option maxRecDepth 100000 in
theorem store_note.tab5 : rtab .any (opsOf Tryz.f40 5) = store_note.T5 := by kernel_rfl
set_option maxRecDepth 100000 in
theorem store_note.bits5 : waitsOk store_note.T5.2 store_note.B5 = true := by kernel_rfl
set_option maxRecDepth 100000 in
set_option maxHeartbeats 4000000 in
theorem note_walk (g : Nat) (most : Int) (l : Value) (ver : Int) (R : List Rd) (N : Nat) (m1 m2 : Value) (F F1 F2 : Nat → Prop) (r : Rd) (A : Option Addr) (c : Nat) (w : World) (base : Nat) (hM : Mp w base F g most l ver R N m1 m2 F1 F2) (hr : r.fine) (ha : Kd.C k85 w A r.a.length r.a) (hc : r.a.length ≤ c)
  (hN : N < 1099511627776) (hR : R.length < 1099511627776) (hbase : base ≤ w.heap.size) :
  Calls Tryz.prog 40 #[.pointer (some ⟨g, 0, none⟩), .agg (r.x.cells (.slice A r.a.length c))] w fun e w' => (∃ u, e = .returned u) ∧ ∃ m1' m2' F1' F2', Mp w' base (fun q => F q ∨ w.heap.size ≤ q) g most l ver (R ++ [r]) (N + 1) m1' m2' F1' F2' ∧ Chg (fun q => q = g ∨ F1 q ∨ F2 q) w w' := by
 obtain ⟨cs, hcs⟩ : ∃ cs, cs = r.x.cells (.slice A r.a.length c) := ⟨_, rfl⟩
 have hs : cs.size = 40 := by rw [hcs]; exact Rc.size hr.ok _
 have h0 : cs[0]? = some (.int .i64 r.x.kd) := by rw [hcs]; rfl
 have h3 : cs[3]? = some (.int .i64 r.x.tm) := by rw [hcs]; rfl
 have h8 : ∀ (j : Nat) (u : Value), (r.x.tr.map (Value.int .u8))[j]? = some u → cs[8 + j]? = some u := by rw [hcs]; exact Rc.mid8 hr.ok _
 have h24 : ∀ (j : Nat) (u : Value), (r.x.sid.map (Value.int .u8))[j]? = some u → cs[24 + j]? = some u := by rw [hcs]; exact Rc.mid24 hr.ok _
 rw [← hcs]
 have HCS := Aside0.mk hcs
 have hsk : (skeyB r).size ≤ maxLen := by
  have hz1 := quoteB_size _ hr.nm
  have hz2 := textB_size hr.tx
  unfold skeyB
  rw [ByteArray.size_append]
  unfold maxLen
  omega
 have HSK := Aside0.mk hsk
 have HDP : Aside0 (spDom (r.x.tr, r.x.sid)) := ⟨hr.ok.tr, hr.ok.sid, hr.ok.wtr, hr.ok.wsid⟩
 have HF := Aside0.mk hr
 have HM := Aside0.mk hM
 have HR := Aside0.mk ha
 have HC := Aside0.mk hc
 have HNN := Aside0.mk hN
 have HRL := Aside0.mk hR
 have HBS := Aside0.mk hbase
 have H8 := Aside0.mk h8
 have H24 := Aside0.mk h24
 have hgW : g < w.heap.size := blk_lt hM.blk
 have HGW := Aside0.mk hgW
 clear hr hM ha hc hN hR hbase hsk hcs h8 h24 hgW
 obtain ⟨W1, hW1⟩ : ∃ W1, W1 = w.alloc (.cells cs 36) := ⟨_, rfl⟩
 have HBW := Aside0.mk (hW1 ▸ below_alloc (Below.refl _ _) _ : Below w.heap.size w W1)
 have HN := Aside0.mk (hW1 ▸ blk_new w _ : W1.heap[w.heap.size]? = some (.cells cs 36 (0, 0)))
 have c0 : W1.cell? ⟨w.heap.size, 0, none⟩ = some (.int .i64 r.x.kd) := (blk_cell HN.out 0).trans h0
 rw [hW1] at c0
 by_cases hk1 : r.x.kd = 1
 ·
  have HK1 := Aside0.mk hk1
  have hb1 : (r.x.kd == 1) = true := by simp [hk1]
  have hb2 : decide (r.x.kd = 1) = true := decide_eq_true hk1
  clear hk1
  go_enter Tryz.func40, Tryz.ntmps40
  go_upto_region 3 with (fail)
  rw [← hW1]
  clear hW1 c0 hb1 hb2
  refine start_ (n := 8) (S := fun w' => Below W1.heap.size W1 w') (ds := [7]) #[false, false, false, false, false, false, false, false] (by kernel_rfl) rfl rfl (below_drew1 (Below.refl _ _)) (fun hHeld => ?_)
  refine with_tabW store_note.tab3 store_note.bits3 (fun HT_ HW_ => ?_)
  generalize W1.drew = W0 at hHeld ⊢
  refine pure_ (i := 0) (N := some 8) (v := ?_) (a' := ?_) #[true, false, false, false, false, false, false, false] rfl rfl (any_of HT_.out (by kernel_rfl)) (fun _ _ _ h => h) (Or.inl ⟨by rfl, ?_⟩) ?_ ?_
  rotate_left
  ·
   intro w'
   go_simp
   with_reducible rfl
  rotate_left
  ·
   simp only [Act.put, List.setIfInBounds_toArray, List.set_cons_zero, List.set_cons_succ, i64_w, i32_w]
   rfl
  refine pure_ (i := 1) (N := some 9) (v := ?_) (a' := ?_) #[true, true, false, false, false, false, false, false] rfl rfl (any_of HT_.out (by kernel_rfl)) (fun _ _ _ h => h) (Or.inl ⟨by rfl, ?_⟩) ?_ ?_
  rotate_left
  ·
   intro w'
   go_simp
   with_reducible rfl
  rotate_left
  ·
   simp only [Act.put, List.setIfInBounds_toArray, List.set_cons_zero, List.set_cons_succ, i64_w, i32_w]
   rfl
  refine pure_ (i := 2) (N := some 10) (v := ?_) (a' := ?_) #[true, true, true, false, false, false, false, false] rfl rfl (any_of HT_.out (by kernel_rfl)) (fun _ _ _ h => h) (Or.inl ⟨by rfl, ?_⟩) ?_ ?_
  rotate_left
  ·
   intro w'
   go_simp
   with_reducible rfl
  rotate_left
  ·
   simp only [Act.put, List.setIfInBounds_toArray, List.set_cons_zero, List.set_cons_succ, i64_w, i32_w]
   rfl
  refine pure_ (i := 5) (N := some 13) (v := ?_) (a' := ?_) #[true, true, true, false, false, true, false, false] rfl rfl (any_of HT_.out (by kernel_rfl)) (fun _ _ _ h => h) (Or.inl ⟨by rfl, ?_⟩) ?_ ?_
  rotate_left
  ·
   intro w'
   go_simp
   with_reducible rfl
  rotate_left
  ·
   simp only [Act.put, List.setIfInBounds_toArray, List.set_cons_zero, List.set_cons_succ, i64_w, i32_w]
   rfl
  refine take_ (i := 3) (N := some 11) (v := ?_) (a' := ?_) #[true, true, true, true, false, true, false, false] rfl rfl (take_ofW HT_.out HW_.out (by kernel_rfl)) (fun _ _ _ h => h) (Or.inl ⟨by rfl, ?_⟩) hHeld ?_ ?_
  rotate_left
  ·
   rintro w' hw
   refine exec_load36 (x := .tmp 3) ?_ ?_ (blk_below HN.out hw) hs
   ·
    rfl
   ·
    rfl
  rotate_left
  ·
   simp only [Act.put, List.setIfInBounds_toArray, List.set_cons_zero, List.set_cons_succ, i64_w, i32_w]
   rfl
  refine take_ (i := 6) (N := some 14) (v := ?_) (a' := ?_) #[true, true, true, true, false, true, true, false] rfl rfl (take_ofW HT_.out HW_.out (by kernel_rfl)) (fun _ _ _ h => h) (Or.inl ⟨by rfl, ?_⟩) hHeld ?_ ?_
  rotate_left
  ·
   rintro w' hw
   have y := (blk_cell (blk_below HN.out hw) 3).trans h3
   go_simp
   with_reducible rfl
  rotate_left
  ·
   simp only [Act.put, List.setIfInBounds_toArray, List.set_cons_zero, List.set_cons_succ, i64_w, i32_w]
   rfl
  refine one_ (i := 4) (N := some 12) #[true, true, true, true, true, true, true, false] rfl rfl (one_of HT_.out (by kernel_rfl)) (by decide) (fun K hK => ?_)
  refine goes_ Tryz.func65 (by kernel_rfl) rfl #[.agg cs] (by rfl) rfl rfl (by (try simp only [List.map_toArray, List.map_cons, List.map_nil]); first | done | rfl) ?_
  refine (HCS.out ▸ seriesKey_walk r HF.out A c W0 (Kd.C_below HR.out (below_step HBW.out hHeld)) HC.out).mono ?_
  rintro e w2 ⟨rfl, hd⟩
  refine ⟨_, rfl, ?_⟩
  refine hK.out _ _ (below_step hHeld hd) (fun hHeld => ?_)
  clear hK K hd
  refine norm_ (a' := ?_) ?_ ?_
  rotate_left
  ·
   show Act.put _ (some 12) _ = _
   simp only [Act.put, List.setIfInBounds_toArray, List.set_cons_zero, List.set_cons_succ, i64_w, i32_w]
   rfl
  refine last_ (i := 7) (N := some 15) #[true, true, true, true, true, true, true, true] rfl rfl (one_of HT_.out (by kernel_rfl)) (by decide) (fun K hK => ?_)
  refine goes_ Tryz.func71 (by kernel_rfl) rfl #[.pointer (some ⟨g, 2, none⟩), .string (skeyB r), .int .i64 r.x.tm] (by rfl) rfl rfl (by (try simp only [List.map_toArray, List.map_cons, List.map_nil]); first | done | rfl) ?_
  refine (add_ser g 2 (stC most l m1 m2 ver) m1 (skeyB r) HSK.out r.x.tm w2 base N (fun q => F1 q ∨ w2.heap.size ≤ q) (timesOf R) (blk_below HM.out.blk (below_step HBW.out hHeld)) rfl ((HM.out.ser.step (fun k _ hk => (below_step HBW.out hHeld).block k hk)).mono (fun q hq => .inl hq)) HNN.out (fun e => e.elim (fun e => HM.out.ng (HM.out.in1 _ e)) (fun e => by have := blk_lt (blk_below HM.out.blk (below_step HBW.out hHeld)); omega)) (fun q hq => .inr hq) (Nat.le_trans HBS.out (below_step HBW.out hHeld).size) (Nat.lt_of_le_of_lt (timesOf_len _ _) HRL.out) (timesOf (R ++ [r])) (fun x _ => timesOf_snoc1 HK1.out x)).mono ?_
  rintro e w3 ⟨⟨u, rfl⟩, m', hb', hs', hch⟩
  refine ⟨_, rfl, ?_⟩
  refine hK.out _ _ ?_
  clear hK K
  refine norm_ (a' := ?_) ?_ ?_
  rotate_left
  ·
   show Act.put _ (some 15) _ = _
   simp only [Act.put, List.setIfInBounds_toArray, List.set_cons_zero, List.set_cons_succ, i64_w, i32_w]
   rfl
  refine done_ (done_of HT_.out (by kernel_rfl)) ?_
  have hfix := below_step HBW.out hHeld
  clear h0 h3
  go_wp2
  go_end0
  have hch2 := (Chg.of_below (F := fun q => q = g ∨ F1 q ∨ F2 q) hfix).trans hch (fun q hq => hq.elim (fun e => .inl (.inl e)) (fun e => e.elim (fun e => .inl (.inr (.inl e))) (fun e => .inr (Nat.le_trans hfix.size e))))
  have hm2 := (((HM.out.spn.bound.step (w' := w3) (fun k hk hk2 => (hch.block k (Nat.lt_of_lt_of_le hk2 hfix.size) (fun e => e.elim (fun e => HM.out.ng (HM.out.in2 _ (e ▸ hk.1))) (fun e => e.elim (fun e => HM.out.ap _ e hk.1) (fun e => by have := hfix.size; omega)))).trans (hfix.block k hk2))).f_eq (fun x _ => spansOf_snoc0 (r := r) (by rw [HK1.out]; decide) x)).more (Nat.le_succ _))
  exact ⟨⟨_, rfl⟩, m', m2, _, _, ⟨hb', hs'.bound, hm2, fun q hq => hq.1.imp (HM.out.in1 q) (fun e => Nat.le_trans hfix.size e), fun q hq => .inl (HM.out.in2 q hq.1), fun q hq hq2 => hq.1.elim (fun e => HM.out.ap _ e hq2.1) (fun e => by have := hfix.size; have := hq2.2.2; omega), fun e => e.elim HM.out.ng (fun e => by have := HGW.out; omega)⟩, hch2⟩
 ·
  have HK1 := Aside0.mk hk1
  have hb1 : (r.x.kd == 1) = false := by simp [hk1]
  have hb2 : decide (r.x.kd = 1) = false := decide_eq_false hk1
  by_cases hk3 : r.x.kd = 3
  ·
   have HK3 := Aside0.mk hk3
   have hb3 : (r.x.kd == 3) = true := by simp [hk3]
   have hb4 : decide (r.x.kd = 3) = true := decide_eq_true hk3
   clear hk1 hk3
   go_enter Tryz.func40, Tryz.ntmps40
   go_upto_region 5 with (fail)
   rw [← hW1]
   clear hW1 c0 hb1 hb2 hb3 hb4
   have h8 := H8.out
   have h24 := H24.out
   refine start_ (n := 9) (S := fun w' => Below W1.heap.size W1 w') (ds := [8]) #[false, false, false, false, false, false, false, false, false] (by kernel_rfl) rfl rfl (below_drew1 (Below.refl _ _)) (fun hHeld => ?_)
   refine with_tabW store_note.tab5 store_note.bits5 (fun HT_ HW_ => ?_)
   generalize W1.drew = W0 at hHeld ⊢
   refine pure_ (i := 0) (N := some 18) (v := ?_) (a' := ?_) #[true, false, false, false, false, false, false, false, false] rfl rfl (any_of HT_.out (by kernel_rfl)) (fun _ _ _ h => h) (Or.inl ⟨by rfl, ?_⟩) ?_ ?_
   rotate_left
   ·
    intro w'
    go_simp
    with_reducible rfl
   rotate_left
   ·
    simp only [Act.put, List.setIfInBounds_toArray, List.set_cons_zero, List.set_cons_succ, i64_w, i32_w]
    rfl
   refine pure_ (i := 1) (N := some 19) (v := ?_) (a' := ?_) #[true, true, false, false, false, false, false, false, false] rfl rfl (any_of HT_.out (by kernel_rfl)) (fun _ _ _ h => h) (Or.inl ⟨by rfl, ?_⟩) ?_ ?_
   rotate_left
   ·
    intro w'
    go_simp
    with_reducible rfl
   rotate_left
   ·
    simp only [Act.put, List.setIfInBounds_toArray, List.set_cons_zero, List.set_cons_succ, i64_w, i32_w]
    rfl
   refine pure_ (i := 2) (N := some 20) (v := ?_) (a' := ?_) #[true, true, true, false, false, false, false, false, false] rfl rfl (any_of HT_.out (by kernel_rfl)) (fun _ _ _ h => h) (Or.inl ⟨by rfl, ?_⟩) ?_ ?_
   rotate_left
   ·
    intro w'
    go_simp
    with_reducible rfl
   rotate_left
   ·
    simp only [Act.put, List.setIfInBounds_toArray, List.set_cons_zero, List.set_cons_succ, i64_w, i32_w]
    rfl
   refine pure_ (i := 3) (N := some 21) (v := ?_) (a' := ?_) #[true, true, true, true, false, false, false, false, false] rfl rfl (any_of HT_.out (by kernel_rfl)) (fun _ _ _ h => h) (Or.inl ⟨by rfl, ?_⟩) ?_ ?_
   rotate_left
   ·
    intro w'
    go_simp
    with_reducible rfl
   rotate_left
   ·
    simp only [Act.put, List.setIfInBounds_toArray, List.set_cons_zero, List.set_cons_succ, i64_w, i32_w]
    rfl
   refine pure_ (i := 5) (N := some 23) (v := ?_) (a' := ?_) #[true, true, true, true, false, true, false, false, false] rfl rfl (any_of HT_.out (by kernel_rfl)) (fun _ _ _ h => h) (Or.inl ⟨by rfl, ?_⟩) ?_ ?_
   rotate_left
   ·
    intro w'
    go_simp
    with_reducible rfl
   rotate_left
   ·
    simp only [Act.put, List.setIfInBounds_toArray, List.set_cons_zero, List.set_cons_succ, i64_w, i32_w]
    rfl
   refine take_ (i := 4) (N := some 22) (v := ?_) (a' := ?_) #[true, true, true, true, true, true, false, false, false] rfl rfl (take_ofW HT_.out HW_.out (by kernel_rfl)) (fun _ _ _ h => h) (Or.inl ⟨by rfl, ?_⟩) hHeld ?_ ?_
   rotate_left
   ·
    rintro w' hw
    refine exec_mid33 (x := .tmp 21) ?_ ?_ (cs := r.x.tr.map (Value.int .u8)) (fun j v hv => (blk_cell (blk_below HN.out hw) (8 + j)).trans (h8 j v hv)) (by simp [HF.out.ok.tr])
    ·
     rfl
    ·
     rfl
   rotate_left
   ·
    simp only [Act.put, List.setIfInBounds_toArray, List.set_cons_zero, List.set_cons_succ, i64_w, i32_w]
    rfl
   refine take_ (i := 6) (N := some 24) (v := ?_) (a' := ?_) #[true, true, true, true, true, true, true, false, false] rfl rfl (take_ofW HT_.out HW_.out (by kernel_rfl)) (fun _ _ _ h => h) (Or.inl ⟨by rfl, ?_⟩) hHeld ?_ ?_
   rotate_left
   ·
    rintro w' hw
    refine exec_mid34 (x := .tmp 23) ?_ ?_ (cs := r.x.sid.map (Value.int .u8)) (fun j v hv => (blk_cell (blk_below HN.out hw) (24 + j)).trans (h24 j v hv)) (by simp [HF.out.ok.sid])
    ·
     rfl
    ·
     rfl
   rotate_left
   ·
    simp only [Act.put, List.setIfInBounds_toArray, List.set_cons_zero, List.set_cons_succ, i64_w, i32_w]
    rfl
   refine take_ (i := 7) (N := some 25) (v := ?_) (a' := ?_) #[true, true, true, true, true, true, true, true, false] rfl rfl (take_ofW HT_.out HW_.out (by kernel_rfl)) (fun _ _ _ h => h) (Or.inl ⟨by rfl, ?_⟩) hHeld ?_ ?_
   rotate_left
   ·
    rintro w' hw
    refine exec_build102 (x := .tmp 22) (y := .tmp 24) (p := (r.x.tr, r.x.sid)) HDP.out ?_ ?_ ?_
    ·
     rfl
    ·
     rfl
    ·
     rfl
   rotate_left
   ·
    simp only [Act.put, List.setIfInBounds_toArray, List.set_cons_zero, List.set_cons_succ, i64_w, i32_w]
    rfl
   refine last_ (i := 8) (N := some 26) #[true, true, true, true, true, true, true, true, true] rfl rfl (one_of HT_.out (by kernel_rfl)) (by decide) (fun K hK => ?_)
   refine goes_ Tryz.func72 (by kernel_rfl) rfl #[.pointer (some ⟨g, 3, none⟩), spVal (r.x.tr, r.x.sid), .bool true] (by rfl) rfl rfl (by (try simp only [List.map_toArray, List.map_cons, List.map_nil]); first | done | rfl) ?_
   refine (add_span' g 3 (stC most l m1 m2 ver) m2 (r.x.tr, r.x.sid) HDP.out true W0 base N (fun q => F2 q ∨ W0.heap.size ≤ q) (spansOf R) (blk_below HM.out.blk (below_step HBW.out hHeld)) rfl ((HM.out.spn.step (fun k _ hk => (below_step HBW.out hHeld).block k hk)).mono (fun q hq => .inl hq)) HNN.out (fun e => e.elim (fun e => HM.out.ng (HM.out.in2 _ e)) (fun e => by have := blk_lt (blk_below HM.out.blk (below_step HBW.out hHeld)); omega)) (fun q hq => .inr hq) (Nat.le_trans HBS.out (below_step HBW.out hHeld).size) (Nat.lt_of_le_of_lt (spansOf_len _ _) HRL.out) (spansOf (R ++ [r])) (fun x _ => spansOf_snoc3 HK3.out x)).mono ?_
   rintro e w3 ⟨⟨u, rfl⟩, m', hb', hs', hch⟩
   refine ⟨_, rfl, ?_⟩
   refine hK.out _ _ ?_
   clear hK K
   refine norm_ (a' := ?_) ?_ ?_
   rotate_left
   ·
    show Act.put _ (some 26) _ = _
    simp only [Act.put, List.setIfInBounds_toArray, List.set_cons_zero, List.set_cons_succ, i64_w, i32_w]
    rfl
   refine done_ (done_of HT_.out (by kernel_rfl)) ?_
   have hfix := below_step HBW.out hHeld
   clear h0 h3 h8 h24
   go_wp2
   go_end0
   have hch2 := (Chg.of_below (F := fun q => q = g ∨ F1 q ∨ F2 q) hfix).trans hch (fun q hq => hq.elim (fun e => .inl (.inl e)) (fun e => e.elim (fun e => .inl (.inr (.inr e))) (fun e => .inr (Nat.le_trans hfix.size e))))
   have hm2 := (((HM.out.ser.bound.step (w' := w3) (fun k hk hk2 => (hch.block k (Nat.lt_of_lt_of_le hk2 hfix.size) (fun e => e.elim (fun e => HM.out.ng (HM.out.in1 _ (e ▸ hk.1))) (fun e => e.elim (fun e => HM.out.ap _ hk.1 e) (fun e => by have := hfix.size; omega)))).trans (hfix.block k hk2))).f_eq (fun x _ => timesOf_snoc0 (r := r) HK1.out x)).more (Nat.le_succ _))
   exact ⟨⟨_, rfl⟩, m1, m', _, _, ⟨hb', hm2, hs'.bound, fun q hq => .inl (HM.out.in1 q hq.1), fun q hq => hq.1.imp (HM.out.in2 q) (fun e => Nat.le_trans hfix.size e), fun q hq hq2 => hq2.1.elim (fun e => HM.out.ap _ hq.1 e) (fun e => by have := hfix.size; have := hq.2.2; omega), fun e => e.elim HM.out.ng (fun e => by have := HGW.out; omega)⟩, hch2⟩
  ·
   have HK3 := Aside0.mk hk3
   have hb3 : (r.x.kd == 3) = false := by simp [hk3]
   have hb4 : decide (r.x.kd = 3) = false := decide_eq_false hk3
   clear hk1 hk3
   go_enter Tryz.func40, Tryz.ntmps40
   go_wp2
   rw [← hW1]
   have hfix := HBW.out
   go_end0
   have hm1 := ((HM.out.ser.step (w' := W1) (fun k _ hk => hfix.block k hk)).f_eq (fun x _ => timesOf_snoc0 (r := r) HK1.out x)).more (Nat.le_succ N)
   have hm2 := ((HM.out.spn.step (w' := W1) (fun k _ hk => hfix.block k hk)).f_eq (fun x _ => spansOf_snoc0 (r := r) HK3.out x)).more (Nat.le_succ N)
   exact ⟨⟨_, rfl⟩, m1, m2, F1, F2, ⟨blk_below HM.out.blk hfix, hm1, hm2, fun q hq => .inl (HM.out.in1 q hq), fun q hq => .inl (HM.out.in2 q hq), HM.out.ap, fun e => e.elim HM.out.ng (fun e => by have := HGW.out; omega)⟩, Chg.of_below hfix⟩
end Go.Proofs.YtefeibndnghejaaGreatDoor.Pr
end
section
set_option linter.unusedVariables false
set_option linter.unusedSimpArgs false
namespace Go.Proofs.YtefeibndnghejaaGreatDoor.Pr
open Go.RowKit Go.Proofs.YtefeibndnghejaaGreatDoorW.PrintWords Go.Proofs.YtefeibndnghejaaGreatDoorW.PrintLast Go.Proofs.YtefeibndnghejaaGreatDoorW.PrintMore
def slices_Clone_Attr.f (l0 : List S85) : Option (List S85) := if l0.length < 4398046511104 then some l0 else none
set_option maxHeartbeats 1000000 in
theorem slices_Clone_Attr.calls (A0 : Option Addr) (c0 : Nat) (l0 : List S85) (r : List S85) (w : World) (hr0 : Kd.C k85 w A0 l0.length l0) (hc0 : l0.length ≤ c0) (h : slices_Clone_Attr.f l0 = some r) :
  Calls Tryz.prog 81 #[.slice A0 l0.length c0] w fun e w' => ∃ v0_ : Value, e = .returned (v0_) ∧ Kd.R k85 85 w' w.heap.size (fun _ => True) v0_ r ∧ Below w.heap.size w w' := by
 unfold slices_Clone_Attr.f at h
 by_cases hl : l0.length < 4398046511104
 ·
  rw [if_pos hl] at h
  obtain rfl := Option.some.inj h
  clear h
  have q22 : ∀ (w : World) (a : Option Addr) (n c n' c' : Nat), (binOp .eql 32 (.slice a n c) (.slice none n' c')).run Tryz.prog w = .ok (.bool a.isNone) w := fun w a n c n' c' => Lib.run_eql_slice_nil w _ _ a n c n' c' Tryz.underlying32
  have HL := Aside0.mk hl
  clear hl
  cases A0 with
  | none =>
   have h0 : l0.length = 0 := by
    rcases Nat.eq_zero_or_pos l0.length with h0 | h0
    ·
     exact h0
    ·
     obtain ⟨ad, e, _⟩ := hr0.2.2 h0
     cases e
   have hn := List.eq_nil_of_length_eq_zero h0
   subst hn
   clear hr0 h0
   go_enter Tryz.func81, Tryz.ntmps81
   go_wp2
   go_ret
   exact ⟨_, rfl, Kd.R_nil _ _ _ _ _, Below.refl _ _⟩
  | some ad =>
   have HR0 := Aside0.mk hr0
   clear hr0 hc0
   go_enter Tryz.func81, Tryz.ntmps81
   go_wp2_with (first | ((with_reducible refine gate_builtin (b := .append) (xs := #[.tmp 5, .tmp 6]) rfl ?_); at_builtin; refine Kd.R_append_rows k85 (w0 := w) w.heap.size rfl (.tmp 5) (.tmp 6) 32 85 (.agg #[(.string ⟨#[]⟩), (.string ⟨#[]⟩)]) 32 rfl Tryz.underlying32 info85 rfl (by decide) (by omega) (.slice (some ⟨w.heap.size, 0, none⟩) 0 0) ([] : List (S85)) l0 _ _ _ (fun _ => True) (fun _ => False) rfl rfl ?aO ?aR (fun _ _ h => h) (fun _ h => h.elim) ?aF ?aB ?aS ?aL ?_; (case aR => exact Kd.C_alloc HR0.out _); (case aB => exact (Below.refl _ _).alloc (Nat.le_refl _) _); (case aF => exact (fun _ _ => trivial)); (case aO => exact flat85.R' (fun _ _ => trivial) (World.ownsRow_made w #[] 0 (Nat.le_refl _) (Nat.zero_le _) (by simp))); (case aS => simp); (case aL => have := HL.out; (try simp only [List.length_nil, Nat.zero_add]); omega); intro v1 w1 ho hb hg hat))
   go_ret
   exact ⟨_, rfl, by simpa using ho, hb⟩
 ·
  rw [if_neg hl] at h
  cases h
end Go.Proofs.YtefeibndnghejaaGreatDoor.Pr
end
section
set_option linter.unusedVariables false
set_option linter.unusedSimpArgs false
namespace Go.Proofs.YtefeibndnghejaaGreatDoor.Pr
open Go.RowKit Go.Proofs.YtefeibndnghejaaGreatDoorW.PrintWords Go.Proofs.YtefeibndnghejaaGreatDoorW.PrintLast Go.Proofs.YtefeibndnghejaaGreatDoorW.PrintMore
def z36 : Array Value := #[.int .i64 0, .string ⟨#[]⟩, .slice none 0 0, .int .i64 0, .int .i64 0, .int .i64 0, .int .i64 0, .string ⟨#[]⟩, .int .u8 0, .int .u8 0, .int .u8 0, .int .u8 0, .int .u8 0, .int .u8 0, .int .u8 0, .int .u8 0, .int .u8 0, .int .u8 0, .int .u8 0, .int .u8 0, .int .u8 0, .int .u8 0, .int .u8 0, .int .u8 0, .int .u8 0, .int .u8 0, .int .u8 0, .int .u8 0, .int .u8 0, .int .u8 0, .int .u8 0, .int .u8 0, .int .u8 0, .int .u8 0, .int .u8 0, .int .u8 0, .int .u8 0, .int .u8 0, .int .u8 0, .int .u8 0]
theorem below_setRow {B : Nat} {w W : World} (h : Below B w W) {g : Nat} (hg : B ≤ g) (cs : Array Value) : Below B w (W.setRow g cs) := by
 refine ⟨h.os, h.tape, h.output, by simpa [World.setRow] using h.size, fun i hi => ?_⟩
 rw [← h.block i hi]
 show (W.heap.modify g _)[i]? = _
 rw [Array.getElem?_modify, if_neg (by omega)]
theorem blk_setRow {W : World} {g t : Nat} {old cs : Array Value} (h : W.heap[g]? = some (.cells old t (0, 0))) : (W.setRow g cs).heap[g]? = some (.cells cs t (0, 0)) := setRow_heap W g old cs t (0, 0) h
theorem R_setRow {α : Type} {d : Kd α} {e : Nat} {w : World} {base : Nat} {ok : Nat → Prop} {v : Value} {xs : List α} (h : d.R e w base ok v xs) {g t : Nat} {cells : Array Value} (hb : w.heap[g]? = some (.cells cells t (0, 0))) (ht : ∀ q, q ∈ e :: d.E → q ≠ t) (cs : Array Value) : d.R e (w.setRow g cs) base ok v xs :=
 Kd.R_mono (Kd.R_step (Kd.R_types h hb ht) (fun k hk _ => by
  show (w.heap.modify g _)[k]? = _
  rw [Array.getElem?_modify, if_neg (fun e => hk.2 e.symm)])) (fun _ hk => hk.1)
set_option maxHeartbeats 8000000 in
set_option maxRecDepth 100000 in
theorem own_walk (x : Rc) (hx : x.ok) (A : Option Addr) (c : Nat) (l : List S85) (w : World) (ha : Kd.C k85 w A l.length l) (hc : l.length ≤ c) (hl : l.length < 4398046511104) :
  Calls Tryz.prog 61 #[.agg (x.cells (.slice A l.length c))] w fun e w' => ∃ A' c', e = .returned (.agg (x.cells (.slice A' l.length c'))) ∧ Kd.R k85 85 w' w.heap.size (fun _ => True) (.slice A' l.length c') l ∧ Below w.heap.size w w' := by
 have hu36 := Tryz.underlying36
 obtain ⟨cs, hcs⟩ : ∃ cs, cs = x.cells (.slice A l.length c) := ⟨_, rfl⟩
 have hs : cs.size = 40 := by rw [hcs]; exact Rc.size hx _
 have h2 : cs[2]? = some (.slice A l.length c) := by rw [hcs]; exact Rc.at2 _ _
 rw [← hcs]
 have HCS := Aside0.mk hcs
 have HX := Aside0.mk hx
 have HR := Aside0.mk ha
 have HC := Aside0.mk hc
 have HL := Aside0.mk hl
 clear hx ha hc hl hcs
 go_enter Tryz.func61, Tryz.ntmps61
 go_upto_region 1 with (fail)
 have hz : Aside0 (((w.alloc (.cells cs 36)).alloc (.cells z36 36)).heap[w.heap.size]? = some (.cells cs 36 (0, 0)) ∧ ((w.alloc (.cells cs 36)).alloc (.cells z36 36)).heap[w.heap.size + 1]? = some (.cells z36 36 (0, 0)) ∧ Below w.heap.size w ((w.alloc (.cells cs 36)).alloc (.cells z36 36))) := by
  refine ⟨blk_alloc (blk_new w _) _, ?_, below_alloc (below_alloc (Below.refl _ _) _) _⟩
  have := blk_new (w.alloc (.cells cs 36)) (.cells z36 36)
  simpa using this
 obtain ⟨W0, hW0⟩ : ∃ W, W = ((w.alloc (.cells cs 36)).alloc (.cells z36 36)) := ⟨_, rfl⟩
 have hW0' := hW0
 unfold z36 at hW0'
 rw [← hW0'] at ⊢
 rw [← hW0] at hz
 clear hW0 hW0'
 have y2 := (blk_cell hz.out.1 2).trans h2
 go_wp2_with fail
 refine (slices_Clone_Attr.calls A c l l W0 (Kd.C_below HR.out hz.out.2.2) HC.out (by rw [slices_Clone_Attr.f, if_pos HL.out])).mono ?_
 rintro e w1 ⟨v, rfl, hRv, hb1⟩
 obtain ⟨A1, c1, rfl⟩ := Kd.R_slice hRv
 have hb : w1.heap[w.heap.size]? = some (.cells cs 36 (0, 0)) := blk_below hz.out.1 hb1
 have f2 := blk_frozen hb 2
 have z2 := (blk_cell hb 2).trans h2
 have HP := Aside0.mk (And.intro (blk_set hb 2 (.slice A1 l.length c1)) (And.intro (blk_far (blk_below hz.out.2.1 hb1) (p := ⟨w.heap.size, 2, none⟩) (by simp) (.slice A1 l.length c1)) (And.intro ((below_step hz.out.2.2 hb1).setCell (p := ⟨w.heap.size, 2, none⟩) (by simp) (.slice A1 l.length c1)) (Kd.R_set (Kd.R_lower hRv hz.out.2.2.size) hb (by decide) 2 (.slice A1 l.length c1)))))
 rw [HCS.out, Rc.set2] at HP
 have HS := Aside0.mk (And.intro (Rc.size HX.out (.slice A1 l.length c1)) (Rc.ones x (v := .slice A1 l.length c1) rfl))
 clear hRv hb1 hb y2
 go_wp2_with (refine wpList_load_row rfl 36 (.tmp 1) rfl w.heap.size rfl 36 (x.cells (.slice A1 l.length c1)) (0, 0) _ HP.out.1 hu36 rfl (by rw [HS.out.1]; kernel_rfl) (Aside0.out ?_))
 refine ⟨?_⟩
 refine wpList_store_rowTo rfl 36 (.tmp 2) (.tmp 7) rfl rfl (w.heap.size + 1) (x.cells (.slice A1 l.length c1)) rfl rfl 36 z36 HP.out.2.1 (by rw [HS.out.1]; kernel_rfl) (by rw [HS.out.1]; rfl) HS.out.2 ?_
 go_wp2
 refine bodyPost_ret (results_cell_row rfl _ _ (w.heap.size + 1) 36 (x.cells (.slice A1 l.length c1)) (0, 0) _ rfl (blk_setRow HP.out.2.1) hu36 rfl (by rw [HS.out.1]; kernel_rfl)) rfl ?_
 exact ⟨A1, c1, rfl, R_setRow HP.out.2.2.2 HP.out.2.1 (by decide) _, below_setRow HP.out.2.2.1 (by omega) _⟩
end Go.Proofs.YtefeibndnghejaaGreatDoor.Pr
end
section
set_option linter.unusedVariables false
set_option linter.unusedSimpArgs false
namespace Go.Proofs.YtefeibndnghejaaGreatDoor.Pr
open Go.RowKit Go.Proofs.YtefeibndnghejaaGreatDoorW.PrintWords Go.Proofs.YtefeibndnghejaaGreatDoorW.PrintLast Go.Proofs.YtefeibndnghejaaGreatDoorW.PrintMore
theorem info36 : (Tryz.prog.info? 36).map (fun i => (i.zero, i.size, i.bytes)) = some (some (.agg z36), 40, 128) := by kernel_rfl
theorem exec_buildRec {ρ : Operand → Value} {o : Oper} {x : Operand} (ho : o.op = .buildSlice 29 1 #[(0, x)]) {cs : Array Value} (hx : ρ x = .agg cs) (hs : cs.size = 40) {W : World} :
  (execOp ρ o).run Tryz.prog W = .ok (.value (.slice (some ⟨W.heap.size, 0, none⟩) 1 1)) (W.alloc (.cells cs 36)) := by
 obtain ⟨i0, hi, hzz⟩ := Option.map_eq_some_iff.1 info36
 simp only [Prod.mk.injEq] at hzz
 obtain ⟨hz0, hz1, hz2⟩ := hzz
 have hf := Go.Great.fill_whole (s := 40) (by omega) [.agg cs] ((Array.range ([Value.agg cs].length * 40)).map ((Value.agg z36).cells[· % (Value.agg z36).cells.size]!)) (fun v hv => by rw [List.mem_singleton.1 hv]; exact hs) (by simp)
 have e : ([Value.agg cs].flatMap fun v => v.cells.toList).toArray = cs := by simp [Value.cells]
 rw [e] at hf
 unfold execOp
 simp only [ho, hx, List.map_toArray, List.map_cons, List.map_nil, Sem.run_bind]
 rw [run_buildSlice W 29 36 1 #[(0, .agg cs)] cs i0 (.agg z36) Tryz.underlying29 hi hz0 (by rw [hz1]; decide) (by rw [hz1]; decide) (by rw [hz1]; exact hf)]
 rfl
theorem C85_stay {w w' : World} {A : Option Addr} {l : List S85} (h : Kd.C k85 w A l.length l) (hm : ∀ ad, A = some ad → ad.block < w.heap.size → w'.heap[ad.block]? = w.heap[ad.block]?) : Kd.C k85 w' A l.length l := by
 obtain ⟨_, h2, h3⟩ := flat85.C h
 refine flat85.C' h2 (fun hp => ?_)
 obtain ⟨ad, e, hc⟩ := h3 hp
 refine ⟨ad, e, fun j u hu => ?_⟩
 have h4 := hc j u hu
 have hb : (ad.add j).block = ad.block := by unfold Addr.add; split <;> rfl
 exact (World.cell?_of_block (by rw [hb]; exact hm ad e (by have := World.block_lt_of_cell? w _ h4; rwa [hb] at this))).trans h4
theorem Mp.frame {w w' : World} {base : Nat} {F : Nat → Prop} {g : Nat} {most : Int} {l : Value} {ver : Int} {R : List Rd} {N : Nat} {m1 m2 : Value} {F1 F2 : Nat → Prop} (h : Mp w base F g most l ver R N m1 m2 F1 F2) (hm : ∀ k, F k → k < w.heap.size → w'.heap[k]? = w.heap[k]?) {l' : Value} {ver' : Int}
  (hb : w'.heap[g]? = some (.cells (stC most l' m1 m2 ver') 81 (0, 0))) : Mp w' base F g most l' ver' R N m1 m2 F1 F2 :=
 ⟨hb, h.ser.step (fun k hk hl => hm k (h.in1 k hk) hl), h.spn.step (fun k hk hl => hm k (h.in2 k hk) hl), h.in1, h.in2, h.ap, h.ng⟩
theorem Mp.bound {w : World} {base : Nat} {F : Nat → Prop} {g : Nat} {most : Int} {l : Value} {ver : Int} {R : List Rd} {N : Nat} {m1 m2 : Value} {F1 F2 : Nat → Prop} (h : Mp w base F g most l ver R N m1 m2 F1 F2) :
  Mp w base (fun q => F q ∧ base ≤ q ∧ q < w.heap.size) g most l ver R N m1 m2 (fun q => F1 q ∧ base ≤ q ∧ q < w.heap.size) (fun q => F2 q ∧ base ≤ q ∧ q < w.heap.size) :=
 ⟨h.blk, h.ser.bound, h.spn.bound, fun q hq => ⟨h.in1 q hq.1, hq.2⟩, fun q hq => ⟨h.in2 q hq.1, hq.2⟩, fun q hq hq2 => h.ap q hq.1 hq2.1, fun e => h.ng e.1⟩
structure StP (w : World) (base : Nat) (F : Nat → Prop) (g : Nat) (most ver : Int) (R : List Rd) (l m1 m2 : Value) (FR FM F1 F2 : Nat → Prop) : Prop where
  mp : Mp w base FM g most l ver R R.length m1 m2 F1 F2
  rec_ : kRc.R 36 w base FR l R
  inR : ∀ q, FR q → F q
  inM : ∀ q, FM q → F q
  fg : F g
  lt : ∀ q, F q → base ≤ q ∧ q < w.heap.size
  ap : ∀ q, FR q → ¬ FM q
  ngR : ¬ FR g
  fine : ∀ r ∈ R, r.fine
def St (w : World) (base : Nat) (F : Nat → Prop) (g : Nat) (most ver : Int) (R : List Rd) : Prop := ∃ l m1 m2 FR FM F1 F2, StP w base F g most ver R l m1 m2 FR FM F1 F2
theorem StP.step {w w' : World} {base : Nat} {F : Nat → Prop} {g : Nat} {most ver : Int} {R : List Rd} {l m1 m2 : Value} {FR FM F1 F2 : Nat → Prop} (h : StP w base F g most ver R l m1 m2 FR FM F1 F2) (hm : ∀ k, F k → w'.heap[k]? = w.heap[k]?) (hs : w.heap.size ≤ w'.heap.size) : StP w' base F g most ver R l m1 m2 FR FM F1 F2 :=
 ⟨h.mp.frame (fun k hk _ => hm k (h.inM k hk)) ((hm g h.fg).trans h.mp.blk), Kd.R_step h.rec_ (fun k hk _ => hm k (h.inR k hk)), h.inR, h.inM, h.fg, fun q hq => ⟨(h.lt q hq).1, Nat.lt_of_lt_of_le (h.lt q hq).2 hs⟩, h.ap, h.ngR, h.fine⟩
theorem St.step {w w' : World} {base : Nat} {F : Nat → Prop} {g : Nat} {most ver : Int} {R : List Rd} (h : St w base F g most ver R) (hm : ∀ k, F k → w'.heap[k]? = w.heap[k]?) (hs : w.heap.size ≤ w'.heap.size) : St w' base F g most ver R := by
 obtain ⟨l, m1, m2, FR, FM, F1, F2, h⟩ := h
 exact ⟨l, m1, m2, FR, FM, F1, F2, h.step hm hs⟩
theorem St.below {w w' : World} {base : Nat} {F : Nat → Prop} {g : Nat} {most ver : Int} {R : List Rd} (h : St w base F g most ver R) (hb : Below w.heap.size w w') : St w' base F g most ver R := by
 obtain ⟨l, m1, m2, FR, FM, F1, F2, h⟩ := h
 exact ⟨l, m1, m2, FR, FM, F1, F2, h.step (fun k hk => hb.block k (h.lt k hk).2) hb.size⟩
theorem St.lt {w : World} {base : Nat} {F : Nat → Prop} {g : Nat} {most ver : Int} {R : List Rd} (h : St w base F g most ver R) : ∀ q, F q → base ≤ q ∧ q < w.heap.size := by
 obtain ⟨l, m1, m2, FR, FM, F1, F2, h⟩ := h
 exact h.lt
def NewF (F : Nat → Prop) (w w' : World) : Nat → Prop := fun q => (F q ∨ w.heap.size ≤ q) ∧ q < w'.heap.size
def store_Put_1.T1 : Bool × List (List Nat × List Nat) := (true, [([], []), ([], []), ([1], [1]), ([2], [2]), ([3], [3]), ([], []), ([5], [5]), ([6], [6]), ([4, 7, 6], [4, 7]), ([0, 0, 1, 2, 3, 4, 5, 6, 7, 8], [0]), ([9, 0, 1, 2, 3, 4, 5, 6, 7, 8], [9]), ([10, 8, 8, 0, 1, 2, 3, 4, 5, 6, 7, 8], [8, 10])])
def store_Put_1.B1 : List Nat := [0, 0, 2, 6, 14, 0, 32, 96, 254, 511, 1023, 2047]
set_option maxRecDepth 100000 in
theorem store_Put_1.tab1 : rtab .any (opsOf Tryz.f63 1) = store_Put_1.T1 := by kernel_rfl
set_option maxRecDepth 100000 in
theorem store_Put_1.bits1 : waitsOk store_Put_1.T1.2 store_Put_1.B1 = true := by kernel_rfl
set_option maxRecDepth 100000 in
set_option maxHeartbeats 4000000 in
theorem put1_ok (a b c g : Nat) (most ver : Int) (R : List Rd) (F : Nat → Prop) (r : Rd) (A : Option Addr) (c0 : Nat) (w : World) (base : Nat) (hS : St w base F g most ver R) (hr : r.fine) (har : Kd.C k85 w A r.a.length r.a) (hac : r.a.length ≤ c0) (hla : r.a.length < 4398046511104)
    (ha : w.cell? ⟨a, 0, none⟩ = some (.int .i64 0)) (hb : w.cell? ⟨b, 0, none⟩ = some (.pointer (some ⟨g, 0, none⟩))) (hc : w.heap[c]? = some (.cells (r.x.cells (.slice A r.a.length c0)) 36 (0, 0))) (hnb : ¬ F b) (hnc : ¬ F c) (hAF : ∀ ad, A = some ad → ¬ F ad.block)
    (hR : R.length < 1048576) (hv : -4611686018427387904 < ver ∧ ver < 4611686018427387904) (hbase : base ≤ w.heap.size) (fm : FrameMode) :
    CallsD Tryz.prog 63 #[.pointer (some ⟨a, 0, none⟩), .pointer (some ⟨b, 0, none⟩), .pointer (some ⟨c, 0, none⟩)] fm w fun e u' w' => u' = fm ∧ (∃ v, e = .returned v) ∧ St w' base (NewF F w w') g most (ver + 1) (R ++ [r]) ∧ Chg F w w' := by
  obtain ⟨l, m1, m2, FR, FM, F1, F2, hP⟩ := hS
  have hu36 := Tryz.underlying36
  obtain ⟨cs, hcs⟩ : ∃ cs, cs = r.x.cells (.slice A r.a.length c0) := ⟨_, rfl⟩
  rw [← hcs] at hc
  have hs : cs.size = 40 := by rw [hcs]; exact Rc.size hr.ok _
  have HCS := Aside0.mk hcs
  have HP := Aside0.mk hP
  have HF := Aside0.mk hr
  have HR := Aside0.mk har
  have HC := Aside0.mk hac
  have HLA := Aside0.mk hla
  have HB0 := Aside0.mk hb
  have HC0 := Aside0.mk hc
  have HNB := Aside0.mk hnb
  have HNC := Aside0.mk hnc
  have HAF := Aside0.mk hAF
  have HRL := Aside0.mk hR
  have HBS := Aside0.mk hbase
  have HV := Aside0.mk hv
  clear hcs hP hr har hac hla hb hc hnb hnc hR hbase hv hAF
  go_enter_d Tryz.func63, Tryz.ntmps63
  go_upto_region 1 with (fail)
  refine start_ (n := 12) (S := fun w' => w'.cell? ⟨b, 0, none⟩ = some (.pointer (some ⟨g, 0, none⟩)) ∧ w'.heap[g]? = some (.cells (stC most l m1 m2 ver) 81 (0, 0)) ∧ w'.heap[c]? = some (.cells cs 36 (0, 0))) (ds := [11]) #[false, false, false, false, false, false, false, false, false, false, false, false] (by kernel_rfl) rfl rfl ⟨HB0.out, HP.out.mp.blk, HC0.out⟩ (fun hHeld => ?_)
  refine with_tabW store_Put_1.tab1 store_Put_1.bits1 (fun HT_ HW_ => ?_)
  have HBD := Aside0.mk (below_drew1 (Below.refl w.heap.size w))
  generalize w.drew = W0 at hHeld HBD ⊢
  refine take_ (i := 0) (N := some 5) (v := ?_) (a' := ?_) #[true, false, false, false, false, false, false, false, false, false, false, false] rfl rfl (take_ofW HT_.out HW_.out (by kernel_rfl)) (fun _ _ _ h => h) (Or.inl ⟨by rfl, ?_⟩) hHeld ?_ ?_
  rotate_left
  · rintro w' ⟨yb, yg, yc⟩
    go_simp
    with_reducible rfl
  rotate_left
  · simp only [Act.put, List.setIfInBounds_toArray, List.set_cons_zero, List.set_cons_succ, i64_w, i32_w]
    rfl
  refine take_ (i := 1) (N := some 6) (v := ?_) (a' := ?_) #[true, true, false, false, false, false, false, false, false, false, false, false] rfl rfl (take_ofW HT_.out HW_.out (by kernel_rfl)) (fun _ _ _ h => h) (Or.inl ⟨by rfl, ?_⟩) hHeld ?_ ?_
  rotate_left
  · rintro w' ⟨yb, yg, yc⟩
    go_simp
    with_reducible rfl
  rotate_left
  · simp only [Act.put, List.setIfInBounds_toArray, List.set_cons_zero, List.set_cons_succ, i64_w, i32_w]
    rfl
  refine pure_ (i := 2) (N := some 7) (v := ?_) (a' := ?_) #[true, true, true, false, false, false, false, false, false, false, false, false] rfl rfl (any_of HT_.out (by kernel_rfl)) (fun _ _ _ h => h) (Or.inl ⟨by rfl, ?_⟩) ?_ ?_
  rotate_left
  · intro w'
    go_simp
    with_reducible rfl
  rotate_left
  · simp only [Act.put, List.setIfInBounds_toArray, List.set_cons_zero, List.set_cons_succ, i64_w, i32_w]
    rfl
  refine pure_ (i := 3) (N := some 8) (v := ?_) (a' := ?_) #[true, true, true, true, false, false, false, false, false, false, false, false] rfl rfl (any_of HT_.out (by kernel_rfl)) (fun _ _ _ h => h) (Or.inl ⟨by rfl, ?_⟩) ?_ ?_
  rotate_left
  · intro w'
    go_simp
    with_reducible rfl
  rotate_left
  · simp only [Act.put, List.setIfInBounds_toArray, List.set_cons_zero, List.set_cons_succ, i64_w, i32_w]
    rfl
  refine take_ (i := 4) (N := some 9) (v := ?_) (a' := ?_) #[true, true, true, true, true, false, false, false, false, false, false, false] rfl rfl (take_ofW HT_.out HW_.out (by kernel_rfl)) (fun _ _ _ h => h) (Or.inl ⟨by rfl, ?_⟩) hHeld ?_ ?_
  rotate_left
  · rintro w' ⟨yb, yg, yc⟩
    have yl := (blk_cell yg 1).trans (show _ = some l from rfl)
    go_simp
    with_reducible rfl
  rotate_left
  · simp only [Act.put, List.setIfInBounds_toArray, List.set_cons_zero, List.set_cons_succ, i64_w, i32_w]
    rfl
  refine take_ (i := 5) (N := some 10) (v := ?_) (a' := ?_) #[true, true, true, true, true, true, false, false, false, false, false, false] rfl rfl (take_ofW HT_.out HW_.out (by kernel_rfl)) (fun _ _ _ h => h) (Or.inl ⟨by rfl, ?_⟩) hHeld ?_ ?_
  rotate_left
  · rintro w' ⟨yb, yg, yc⟩
    refine exec_load36 (x := .tmp 2) ?_ ?_ yc hs
    · rfl
    · rfl
  rotate_left
  · simp only [Act.put, List.setIfInBounds_toArray, List.set_cons_zero, List.set_cons_succ, i64_w, i32_w]
    rfl
  refine one_ (i := 6) (N := some 11) #[true, true, true, true, true, true, true, false, false, false, false, false] rfl rfl (one_of HT_.out (by kernel_rfl)) (by decide) (fun K hK => ?_)
  refine goes_ Tryz.func61 (by kernel_rfl) rfl #[.agg cs] (by rfl) rfl rfl (by (try simp only [List.map_toArray, List.map_cons, List.map_nil]); first | done | rfl) ?_
  refine (HCS.out ▸ own_walk r.x HF.out.ok A c0 r.a W0 (Kd.C_below HR.out HBD.out) HC.out HLA.out).mono ?_
  rintro e w2 ⟨A1, c1, rfl, hR1, hd1⟩
  have HR1 := Aside0.mk hR1
  have HB2 := Aside0.mk (below_step HBD.out hd1)
  have HS1 := Aside0.mk (And.intro (Rc.size HF.out.ok (.slice A1 r.a.length c1)) (Rc.ones r.x (v := .slice A1 r.a.length c1) rfl))
  refine ⟨_, rfl, ?_⟩
  refine hK.out _ _ ⟨(hd1.cell (World.block_lt_of_cell? W0 _ hHeld.1)).trans hHeld.1, blk_below hHeld.2.1 hd1, blk_below hHeld.2.2 hd1⟩ (fun hHeld => ?_)
  clear hK K hR1 hd1
  refine norm_ (a' := ?_) ?_ ?_
  rotate_left
  · show Act.put _ (some 11) _ = _
    simp only [Act.put, List.setIfInBounds_toArray, List.set_cons_zero, List.set_cons_succ, i64_w, i32_w]
    rfl
  have H2 := Aside0.mk hHeld
  refine one_ (i := 7) (N := some 12) #[true, true, true, true, true, true, true, true, false, false, false, false] rfl rfl (one_of HT_.out (by kernel_rfl)) (by decide) (fun K hK => ?_)
  refine value_ (w1 := w2.alloc (.cells (r.x.cells (.slice A1 r.a.length c1)) 36)) (v := (.slice (some ⟨w2.heap.size, 0, none⟩) 1 1)) (by rfl) rfl (exec_buildRec (x := .tmp 11) (cs := r.x.cells (.slice A1 r.a.length c1)) (by rfl) (by rfl) HS1.out.1) ?_
  refine hK.out _ _ ⟨((Below.refl w2.heap.size w2).alloc (Nat.le_refl _) _ |>.cell (World.block_lt_of_cell? w2 _ hHeld.1)).trans hHeld.1, blk_alloc hHeld.2.1 _, blk_alloc hHeld.2.2 _⟩ (fun hHeld => ?_)
  clear hK K
  refine norm_ (a' := ?_) ?_ ?_
  rotate_left
  · show Act.put _ (some 12) _ = _
    simp only [Act.put, List.setIfInBounds_toArray, List.set_cons_zero, List.set_cons_succ, i64_w, i32_w]
    rfl
  refine one_ (i := 8) (N := some 13) #[true, true, true, true, true, true, true, true, true, false, false, false] rfl rfl (one_of HT_.out (by kernel_rfl)) (by decide) (fun K hK => ?_)
  have HLR := Aside0.mk (Kd.R_below HP.out.rec_ HB2.out)
  refine Kd.R_append_step kRc (w0 := w2) (W := w2) base (by rfl) (.tmp 9) (.tmp 12) 29 36 (.agg z36) 128 rfl Tryz.underlying29 info36 rfl (by decide) (by omega) l R r (r.x.cells (.slice A1 r.a.length c1)).toList (fun k => FR k ∨ w.heap.size ≤ k) (fun k => W0.heap.size ≤ k) rfl (by rfl) ⟨HF.out.ok, _, rfl, Kd.R_mono (Kd.R_lower (Kd.R_bound HR1.out) (Nat.le_trans HBS.out HBD.out.size)) (fun q hq => hq.2.1)⟩ (fun k hk => ⟨.inr (Nat.le_trans HBD.out.size hk), fun e => by have h1 := Kd.R_lt HP.out.rec_ k e.symm; have h2 := HBD.out.size; omega⟩) (fun k hk => .inr (Nat.le_trans HB2.out.size hk)) (Kd.R_mono HLR.out (fun q hq => .inl hq)) (Below.refl _ _) (Nat.le_trans HBS.out HB2.out.size) (by have := HRL.out; omega) ?_
  intro v1 w3 hR3 hb3 hg3 hat3
  have hnb : some b ≠ l.ownBlock := fun e => HNB.out (HP.out.inR _ (HP.out.rec_.1 b e.symm))
  have hng : some g ≠ l.ownBlock := fun e => HP.out.ngR (HP.out.rec_.1 g e.symm)
  have hnc : some c ≠ l.ownBlock := fun e => HNC.out (HP.out.inR _ (HP.out.rec_.1 c e.symm))
  have HH3 := Aside0.mk (And.intro ((World.cell?_of_block (w := w2) (hg3.block b (World.block_lt_of_cell? w2 _ H2.out.1) hnb)).trans H2.out.1) (And.intro ((hg3.block g (blk_lt H2.out.2.1) hng).trans H2.out.2.1) ((hg3.block c (blk_lt H2.out.2.2) hnc).trans H2.out.2.2)))
  have HR3 := Aside0.mk hR3
  have HCH3 := Aside0.mk ((Chg.of_below (F := FR) HB2.out).trans (Chg.grown (F := FR) hg3 (fun q hq => HP.out.rec_.1 q hq)) (fun q hq => .inl hq))
  clear hR3 hb3 hg3 hat3 hnb hng hnc
  obtain ⟨A3, c3, hv3⟩ := Kd.R_slice HR3.out
  rw [List.length_append, List.length_singleton] at hv3
  subst hv3
  refine hK.out _ _ ⟨HH3.out.1, HH3.out.2.1, HH3.out.2.2⟩ (fun hHeld => ?_)
  clear hK K
  refine norm_ (a' := ?_) ?_ ?_
  rotate_left
  · show Act.put _ (some 13) _ = _
    simp only [Act.put, List.setIfInBounds_toArray, List.set_cons_zero, List.set_cons_succ, i64_w, i32_w]
    rfl
  refine pure_ (i := 9) (N := some 14) (v := ?_) (a' := ?_) #[true, true, true, true, true, true, true, true, true, true, false, false] rfl rfl (any_of HT_.out (by kernel_rfl)) (fun _ _ _ h => h) (Or.inl ⟨by rfl, ?_⟩) ?_ ?_
  rotate_left
  · intro w'
    go_simp
    with_reducible rfl
  rotate_left
  · simp only [Act.put, List.setIfInBounds_toArray, List.set_cons_zero, List.set_cons_succ, i64_w, i32_w]
    rfl
  refine pure_ (i := 10) (N := some 15) (v := ?_) (a' := ?_) #[true, true, true, true, true, true, true, true, true, true, true, false] rfl rfl (any_of HT_.out (by kernel_rfl)) (fun _ _ _ h => h) (Or.inl ⟨by rfl, ?_⟩) ?_ ?_
  rotate_left
  · intro w'
    go_simp
    with_reducible rfl
  rotate_left
  · simp only [Act.put, List.setIfInBounds_toArray, List.set_cons_zero, List.set_cons_succ, i64_w, i32_w]
    rfl
  refine last_ (i := 11) (N := none) #[true, true, true, true, true, true, true, true, true, true, true, true] rfl rfl (one_of HT_.out (by kernel_rfl)) (by decide) (fun K hK => ?_)
  have hs11 := (blk_cell HH3.out.2.1 1).trans (show _ = some l from rfl)
  have hf11 := blk_frozen HH3.out.2.1 1
  refine skip_ (w1 := ?_) (by rfl) rfl ?_ ?_
  rotate_left
  · go_simp
    rfl
  refine hK.out _ _ ?_
  clear hK K
  refine done_ (done_of HT_.out (by kernel_rfl)) ?_
  have hbl4 : (w3.setCell ⟨g, 1, none⟩ (.slice A3 (R.length + 1) c3)).heap[g]? = some (.cells (stC most (.slice A3 (R.length + 1) c3) m1 m2 ver) 81 (0, 0)) := blk_set HH3.out.2.1 1 (.slice A3 (R.length + 1) c3)
  have hmp4 : Mp (w3.setCell ⟨g, 1, none⟩ (.slice A3 (R.length + 1) c3)) base FM g most (.slice A3 (R.length + 1) c3) ver R R.length m1 m2 F1 F2 := HP.out.mp.frame (fun k hk hlt => (Below.heap_setCell w3 ⟨g, 1, none⟩ _ k (fun e => HP.out.mp.ng ((show k = g from e) ▸ hk))).trans (HCH3.out.block k hlt (fun e => HP.out.ap k e hk))) hbl4
  have hrec4 := Kd.R_set HR3.out HH3.out.2.1 (by decide) 1 (.slice A3 (R.length + 1) c3)
  have hcell4 : (w3.setCell ⟨g, 1, none⟩ (.slice A3 (R.length + 1) c3)).cell? ⟨b, 0, none⟩ = some (.pointer (some ⟨g, 0, none⟩)) := (World.cell?_of_block (w := w3) (Below.heap_setCell w3 ⟨g, 1, none⟩ _ b (fun e => HNB.out ((show b = g from e) ▸ HP.out.fg)))).trans HH3.out.1
  have hc4 : (w3.setCell ⟨g, 1, none⟩ (.slice A3 (R.length + 1) c3)).heap[c]? = some (.cells cs 36 (0, 0)) := (Below.heap_setCell w3 ⟨g, 1, none⟩ _ c (fun e => HNC.out ((show c = g from e) ▸ HP.out.fg))).trans HH3.out.2.2
  have hch4 : Chg F w (w3.setCell ⟨g, 1, none⟩ (.slice A3 (R.length + 1) c3)) := (HCH3.out.mono HP.out.inR).trans (Chg.setCell (F := F) HP.out.fg (.slice A3 (R.length + 1) c3)) (fun q hq => .inl hq)
  have HCH4' := Aside0.mk hch4
  have hC4 : Kd.C k85 (w3.setCell ⟨g, 1, none⟩ (.slice A3 (R.length + 1) c3)) A r.a.length r.a := C85_stay HR.out (fun ad e hlt => HCH4'.out.block _ hlt (HAF.out ad e))
  have hsz4 : w.heap.size ≤ (w3.setCell ⟨g, 1, none⟩ (.slice A3 (R.length + 1) c3)).heap.size := hch4.size
  have HM4 := Aside0.mk hmp4
  have HR4 := Aside0.mk hrec4
  have HC4 := Aside0.mk hc4
  have HCH4 := Aside0.mk hch4
  have HA4 := Aside0.mk hC4
  have HK4 := Aside0.mk hcell4
  have HSZ4 := Aside0.mk hsz4
  clear hbl4 hmp4 hrec4 hc4 hch4 hC4 HH3 HR3 HCH3 HCH4' hcell4 hsz4
  generalize w3.setCell ⟨g, 1, none⟩ (.slice A3 (R.length + 1) c3) = w4 at HM4 HR4 HC4 HCH4 HA4 HK4 HSZ4 ⊢
  have hk4 := HK4.out
  go_wp2_with (refine wpList_load_row rfl 36 (.tmp 2) rfl c rfl 36 cs (0, 0) _ HC4.out hu36 rfl (by rw [hs]; kernel_rfl) (Aside0.out ?_))
  refine ⟨?_⟩
  go_wp2_with fail
  refine (HCS.out ▸ note_walk g most (.slice A3 (R.length + 1) c3) ver R R.length m1 m2 FM F1 F2 r A c0 w4 base HM4.out HF.out HA4.out HC.out (by have := HRL.out; omega) (by have := HRL.out; omega) (Nat.le_trans HBS.out HSZ4.out)).mono ?_
  rintro e w5 ⟨⟨u, rfl⟩, m1', m2', F1', F2', hM5, hch5⟩
  have hng5 : ∀ q, (FR q ∨ w.heap.size ≤ q) → q < w4.heap.size → ¬ (q = g ∨ F1 q ∨ F2 q) := by
    intro q hq hlt e
    rcases e with e | e
    · subst e
      exact hq.elim HP.out.ngR (fun h => by have := (HP.out.lt q HP.out.fg).2; omega)
    · have hm : FM q := e.elim (HP.out.mp.in1 q) (HP.out.mp.in2 q)
      exact hq.elim (fun h => HP.out.ap q h hm) (fun h => by have := (HP.out.lt q (HP.out.inM q hm)).2; omega)
  have hrec5 : kRc.R 36 w5 base (fun q => (FR q ∨ w.heap.size ≤ q) ∧ q < w4.heap.size) (.slice A3 (R.length + 1) c3) (R ++ [r]) :=
    Kd.R_step (Kd.R_mono (Kd.R_bound HR4.out) (fun q hq => ⟨hq.1, hq.2.2.1⟩)) (fun k hk hlt => hch5.block k hlt (hng5 k hk.1 hk.2))
  have hb5 : w5.cell? ⟨b, 0, none⟩ = some (.pointer (some ⟨g, 0, none⟩)) := (World.cell?_of_block (w := w4) (hch5.block b (World.block_lt_of_cell? w4 _ HK4.out) (fun e => HNB.out (e.elim (fun e => e ▸ HP.out.fg) (fun e => e.elim (fun e => HP.out.inM _ (HP.out.mp.in1 _ e)) (fun e => HP.out.inM _ (HP.out.mp.in2 _ e))))))).trans HK4.out
  have HR5 := Aside0.mk hrec5
  have HM5 := Aside0.mk hM5
  have HCH5 := Aside0.mk hch5
  have h54 : w5.cell? ⟨g, 4, none⟩ = some (.int .i64 ver) := (blk_cell hM5.blk 4).trans rfl
  have f54 : w5.frozen? ⟨g, 4, none⟩ = false := blk_frozen hM5.blk 4
  have hw5 : wrap64 (ver + 1) = ver + 1 := IntWalk.wrap64_in _ (by have := HV.out; omega)
  clear hk4 hng5 hrec5 hM5 hch5
  go_wp2_with fail
  go_end0
  obtain ⟨W6, hW6⟩ : ∃ W6, W6 = w5.setCell ⟨g, 4, none⟩ (.int .i64 (ver + 1)) := ⟨_, rfl⟩
  have hbl6 : W6.heap[g]? = some (.cells (stC most (.slice A3 (R.length + 1) c3) m1' m2' (ver + 1)) 81 (0, 0)) := hW6 ▸ blk_set HM5.out.blk 4 _
  have hsz6 : W6.heap.size = w5.heap.size := by rw [hW6]; simp [World.setCell]
  have hM6 : Mp W6 base _ g most (.slice A3 (R.length + 1) c3) (ver + 1) (R ++ [r]) (R.length + 1) m1' m2' _ _ := (HM5.out.bound).frame (fun k hk _ => by rw [hW6]; exact Below.heap_setCell w5 ⟨g, 4, none⟩ _ k (fun e => HM5.out.ng ((show k = g from e) ▸ hk.1))) hbl6
  have hR6 : kRc.R 36 W6 base _ (.slice A3 (R.length + 1) c3) (R ++ [r]) := hW6 ▸ Kd.R_set HR5.out HM5.out.blk (by decide) 4 _
  have hch6 : Chg F w W6 := by
    have h1 : Chg F w4 w5 := HCH5.out.mono (fun q hq => hq.elim (fun e => e ▸ HP.out.fg) (fun e => e.elim (fun e => HP.out.inM _ (HP.out.mp.in1 _ e)) (fun e => HP.out.inM _ (HP.out.mp.in2 _ e))))
    exact (HCH4.out.trans h1 (fun q hq => .inl hq)).trans (hW6 ▸ Chg.setCell (F := F) HP.out.fg _) (fun q hq => .inl hq)
  have hgl := HP.out.lt g HP.out.fg
  rw [← hW6]
  have h45 := HCH5.out.size
  have h04 := HSZ4.out
  rw [show R.length + 1 = (R ++ [r]).length by simp] at hM6 hR6
  have hP6 : StP W6 base (NewF F w W6) g most (ver + 1) (R ++ [r]) (.slice A3 (R ++ [r]).length c3) m1' m2' (fun q => (FR q ∨ w.heap.size ≤ q) ∧ q < w4.heap.size) (fun q => (FM q ∨ w4.heap.size ≤ q) ∧ base ≤ q ∧ q < w5.heap.size) (fun q => F1' q ∧ base ≤ q ∧ q < w5.heap.size) (fun q => F2' q ∧ base ≤ q ∧ q < w5.heap.size) := by
   refine ⟨hM6, hR6, fun q hq => ⟨hq.1.imp (HP.out.inR q) id, by omega⟩, fun q hq => ⟨hq.1.elim (fun h => .inl (HP.out.inM q h)) (fun h => .inr (by omega)), by omega⟩, ⟨.inl HP.out.fg, by omega⟩, fun q hq => ⟨hq.1.elim (fun h => (HP.out.lt q h).1) (fun h => Nat.le_trans HBS.out h), hq.2⟩, ?_, fun e => e.1.elim HP.out.ngR (fun h => by omega), ?_⟩
   · intro q hq hq2
     have hlt4 : q < w4.heap.size := hq.2
     rcases hq2.1 with hm | hm
     · exact hq.1.elim (fun h => HP.out.ap q h hm) (fun h => by have := (HP.out.lt q (HP.out.inM q hm)).2; omega)
     · omega
   · intro x hx
     rcases List.mem_append.1 hx with hx | hx
     · exact HP.out.fine x hx
     · rw [List.mem_singleton.1 hx]
       exact HF.out
  exact ⟨⟨_, rfl⟩, ⟨_, _, _, _, _, _, _, hP6⟩, hch6⟩
theorem put1_no (a : Nat) (b c : Value) (why : Int) (h0 : why ≠ 0) (w : World) (ha : w.cell? ⟨a, 0, none⟩ = some (.int .i64 why)) (fm : FrameMode) :
  CallsD Tryz.prog 63 #[.pointer (some ⟨a, 0, none⟩), b, c] fm w fun e u' w' => u' = fm ∧ (∃ v, e = .returned v) ∧ w' = w := by
 have h1 : (why == 0) = false := by simp [h0]
 have h2 : decide (why = 0) = false := decide_eq_false h0
 clear h0
 go_enter_d Tryz.func63, Tryz.ntmps63
 go_wp2
 go_end0
 exact ⟨⟨_, rfl⟩, rfl⟩
end Go.Proofs.YtefeibndnghejaaGreatDoor.Pr
end
