import Derived.Test.YtefeibndnghejaaGreatDoorJn10
import Derived.Test.YtefeibndnghejaaGreatDoorJn14
import Derived.Test.YtefeibndnghejaaGreatDoorJn11
import Derived.Lib.SliceRun
section
set_option linter.unusedVariables false
set_option linter.unusedSimpArgs false
namespace Go.Proofs.YtefeibndnghejaaGreatDoor.Pr
open Go.RowKit Go.Proofs.YtefeibndnghejaaGreatDoorW.PrintWords Go.Proofs.YtefeibndnghejaaGreatDoorW.PrintLast Go.Proofs.YtefeibndnghejaaGreatDoorW.PrintMore
def oldP (R : List Rd) (r : Rd) : Prop := r.x.kd = 1 ∧ timesOf R (skeyB r).data.toList ≠ [] ∧ r.x.tm ≤ (timesOf R (skeyB r).data.toList).getLastD 0
def twiceP (R : List Rd) (r : Rd) : Prop := r.x.kd = 3 ∧ spansOf R (r.x.tr, r.x.sid) ≠ []
open Classical in
noncomputable def putE (most : Int) (R : List Rd) (r : Rd) (why : Int) : Int :=
  if r.x.kd < 1 ∨ 3 < r.x.kd then 1 else if why ≠ 0 then why else if oldP R r then 9 else if twiceP R r then 6 else if most ≤ (R.length : Int) then 7 else 0
theorem St.mono {w : World} {base : Nat} {F G : Nat → Prop} {g : Nat} {most ver : Int} {R : List Rd} (h : St w base F g most ver R) (hG : ∀ q, F q → G q) (hl : ∀ q, G q → base ≤ q ∧ q < w.heap.size) : St w base G g most ver R := by
 obtain ⟨l, m1, m2, FR, FM, F1, F2, h⟩ := h
 exact ⟨l, m1, m2, FR, FM, F1, F2, h.mp, h.rec_, fun q hq => hG q (h.inR q hq), fun q hq => hG q (h.inM q hq), hG g h.fg, hl, h.ap, h.ngR, h.fine⟩
theorem St.newF {w w' : World} {base : Nat} {F : Nat → Prop} {g : Nat} {most ver : Int} {R : List Rd} (h : St w base F g most ver R) (hb : Below w.heap.size w w') (hbase : base ≤ w.heap.size) : St w' base (NewF F w w') g most ver R :=
 (h.below hb).mono (fun q hq => ⟨.inl hq, Nat.lt_of_lt_of_le (h.lt q hq).2 hb.size⟩) (fun q hq => ⟨hq.1.elim (fun e => (h.lt q e).1) (fun e => Nat.le_trans hbase e), hq.2⟩)
theorem leave_cell {fn : Func} {p : Tmp} (h : fn.results = #[.cell p 64]) (tmps : Array Value) (w : World) (a : Nat) (x : Int) (hp : tmps.getD p undef = .pointer (some ⟨a, 0, none⟩)) (hc : w.cell? ⟨a, 0, none⟩ = some (.int .i64 x)) :
  (results fn tmps).run Tryz.prog w = .ok (.int .i64 x) w := by
 have hp' : tmps[p]?.getD undef = .pointer (some ⟨a, 0, none⟩) := by simpa using hp
 simp only [results, h, List.map_toArray, List.map_cons, List.map_nil]
 go_simp
def store_Put.T10 : Bool × List (List Nat × List Nat) := (true, [([], []), ([0], [0]), ([1], [1]), ([], []), ([3], [3]), ([2, 4, 4], [2, 4]), ([5], [5]), ([6], [6]), ([6], [6]), ([7, 5, 0, 1, 2, 3, 4, 5, 6, 7], [7]), ([8, 9, 0, 1, 2, 3, 4, 5, 6, 7, 8, 9], [8])])
def store_Put.B10 : List Nat := [0, 1, 3, 0, 8, 31, 63, 127, 127, 255, 1023]
set_option maxRecDepth 100000 in
theorem store_Put.tab10 : rtab .any (opsOf Tryz.f32 10) = store_Put.T10 := by kernel_rfl
set_option maxRecDepth 100000 in
theorem store_Put.bits10 : waitsOk store_Put.T10.2 store_Put.B10 = true := by kernel_rfl
def store_Put.T14 : Bool × List (List Nat × List Nat) := (true, [([], []), ([0], [0]), ([1], [1]), ([], []), ([3], [3]), ([], []), ([5], [5]), ([4, 6], [4, 6]), ([2, 7], [2, 7]), ([8], [8]), ([9], [9]), ([9], [9]), ([10, 8, 0, 1, 2, 3, 4, 5, 6, 7, 8, 9, 10], [10]), ([11, 12, 0, 1, 2, 3, 4, 5, 6, 7, 8, 9, 10, 11, 12], [11])])
def store_Put.B14 : List Nat := [0, 1, 3, 0, 8, 0, 32, 120, 255, 511, 1023, 1023, 2047, 8191]
set_option maxRecDepth 100000 in
theorem store_Put.tab14 : rtab .any (opsOf Tryz.f32 14) = store_Put.T14 := by kernel_rfl
set_option maxRecDepth 100000 in
theorem store_Put.bits14 : waitsOk store_Put.T14.2 store_Put.B14 = true := by kernel_rfl
def store_Put.T17 : Bool × List (List Nat × List Nat) := (true, [([], []), ([0], [0]), ([1], [1]), ([2], [2]), ([3], [3]), ([], []), ([5], [5]), ([6], [6]), ([7], [7]), ([4, 8], [4, 8])])
def store_Put.B17 : List Nat := [0, 1, 3, 7, 15, 0, 32, 96, 224, 511]
set_option maxRecDepth 100000 in
theorem store_Put.tab17 : rtab .any (opsOf Tryz.f32 17) = store_Put.T17 := by kernel_rfl
set_option maxRecDepth 100000 in
theorem store_Put.bits17 : waitsOk store_Put.T17.2 store_Put.B17 = true := by kernel_rfl
def PutPost (base : Nat) (F : Nat → Prop) (g : Nat) (most ver : Int) (R : List Rd) (r : Rd) (w : World) (E : Int) (e : Ending) (w' : World) : Prop :=
  e = .returned (.int .i64 E) ∧ Chg F w w' ∧ St w' base (NewF F w w') g most (if E = 0 then ver + 1 else ver) (if E = 0 then R ++ [r] else R)
theorem PutPost.no {base : Nat} {F : Nat → Prop} {g : Nat} {most ver : Int} {R : List Rd} {r : Rd} {w : World} {E : Int} {w' : World} (hE : E ≠ 0) (h1 : Chg F w w') (h2 : St w' base (NewF F w w') g most ver R) : PutPost base F g most ver R r w E (.returned (.int .i64 E)) w' :=
 ⟨rfl, h1, by rw [if_neg hE, if_neg hE]; exact h2⟩
theorem PutPost.yes {base : Nat} {F : Nat → Prop} {g : Nat} {most ver : Int} {R : List Rd} {r : Rd} {w : World} {w' : World} (h1 : Chg F w w') (h2 : St w' base (NewF F w w') g most (ver + 1) (R ++ [r])) : PutPost base F g most ver R r w 0 (.returned (.int .i64 0)) w' :=
 ⟨rfl, h1, h2⟩
theorem last_ser' (g o : Nat) (m : Value) (s : ByteArray) (w : World) (base N : Nat) (F : Nat → Prop) (f : List UInt8 → List Int) (hs : s.size ≤ maxLen) (hc : w.cell? ⟨g, o, none⟩ = some m) (h : MSer w base F m f N) :
  Calls Tryz.prog 64 #[.pointer (some ⟨g, o, none⟩), .string s] w fun e w' => ∃ t ok, Aside0 ((f s.data.toList).getLastD 0 = t ∧ (ok = true → f s.data.toList ≠ []) ∧ (f s.data.toList ≠ [] → ok = true)) ∧ e = .returned (.tuple #[.int .i64 t, .bool ok]) ∧ Drawn0 w w' :=
 (last_ser g o m s w base N F f hs hc h).mono fun e w' ⟨he, hd⟩ => ⟨_, _, ⟨rfl, of_decide_eq_true, decide_eq_true⟩, he, hd⟩
theorem last_span' (g o : Nat) (m : Value) (p : List Int × List Int) (w : World) (base N : Nat) (F : Nat → Prop) (f : List Int × List Int → List Bool) (hp : spDom p) (hc : w.cell? ⟨g, o, none⟩ = some m) (h : MSpn w base F m f N) :
  Calls Tryz.prog 66 #[.pointer (some ⟨g, o, none⟩), spVal p] w fun e w' => ∃ ok, Aside0 ((ok = true → f p ≠ []) ∧ (f p ≠ [] → ok = true)) ∧ (∃ b, e = .returned (.tuple #[.bool b, .bool ok])) ∧ Below w.heap.size w w' :=
 (last_span g o m p w base N F f hp hc h).mono fun e w' ⟨he, hd⟩ => ⟨_, ⟨of_decide_eq_true, decide_eq_true⟩, he, hd⟩
set_option maxRecDepth 100000 in
set_option maxHeartbeats 8000000 in
theorem put_walk (k : Nat) (g : Nat) (most ver : Int) (R : List Rd) (F : Nat → Prop) (r : Rd) (A : Option Addr) (c0 : Nat) (w : World) (base : Nat) (hS : St w base F g most ver R) (hx : r.x.ok) (har : Kd.C k85 w A r.a.length r.a) (hac : r.a.length ≤ c0)
  (why : Int) (hwhy : attr_Right.f k r.a = some why) (hfine : why = 0 → r.fine ∧ r.a.length < 4398046511104) (hAF : ∀ ad, A = some ad → ¬ F ad.block)
  (hR : R.length < 1048576) (hv : -4611686018427387904 < ver ∧ ver < 4611686018427387904) (hbase : base ≤ w.heap.size) (he : EnvW w) :
  Calls Tryz.prog 32 #[.pointer (some ⟨g, 0, none⟩), .agg (r.x.cells (.slice A r.a.length c0))] w (PutPost base F g most ver R r w (putE most R r why)) := by
 have hlt := hS.lt
 have hu36 := Tryz.underlying36
 obtain ⟨cs, hcs⟩ : ∃ cs, cs = r.x.cells (.slice A r.a.length c0) := ⟨_, rfl⟩
 have hs : cs.size = 40 := by rw [hcs]; exact Rc.size hx _
 have h0 : cs[0]? = some (.int .i64 r.x.kd) := by rw [hcs]; rfl
 have h2 : cs[2]? = some (.slice A r.a.length c0) := by rw [hcs]; exact Rc.at2 _ _
 have h3 : cs[3]? = some (.int .i64 r.x.tm) := by rw [hcs]; rfl
 have h8 : ∀ (j : Nat) (u : Value), (r.x.tr.map (Value.int .u8))[j]? = some u → cs[8 + j]? = some u := by rw [hcs]; exact Rc.mid8 hx _
 have h24 : ∀ (j : Nat) (u : Value), (r.x.sid.map (Value.int .u8))[j]? = some u → cs[24 + j]? = some u := by rw [hcs]; exact Rc.mid24 hx _
 rw [← hcs]
 have HCS := Aside0.mk hcs
 have HS := Aside0.mk hS
 have HX := Aside0.mk hx
 have HR := Aside0.mk har
 have HC := Aside0.mk hac
 have HW := Aside0.mk hwhy
 have HFI := Aside0.mk hfine
 have HAF := Aside0.mk hAF
 have HRL := Aside0.mk hR
 have HV := Aside0.mk hv
 have HBS := Aside0.mk hbase
 have HE := Aside0.mk he
 have H8 := Aside0.mk h8
 have H24 := Aside0.mk h24
 have HLT := Aside0.mk hlt
 have HDP : Aside0 (spDom (r.x.tr, r.x.sid)) := ⟨hx.tr, hx.sid, hx.wtr, hx.wsid⟩
 clear hcs hS hx har hac hwhy hfine hAF hR hv hbase he h8 h24 hlt
 obtain ⟨W1, hW1⟩ : ∃ W1, W1 = ((w.alloc (.cells #[.pointer (some ⟨g, 0, none⟩)] 23)).alloc (.cells cs 36)).alloc (.cells #[.int .i64 0] 64) := ⟨_, rfl⟩
 have hbw : Below w.heap.size w W1 := hW1 ▸ below_alloc (below_alloc (below_alloc (Below.refl _ _) _) _) _
 have hsb0 : W1.heap[w.heap.size]? = some (.cells #[.pointer (some ⟨g, 0, none⟩)] 23 (0, 0)) := hW1 ▸ blk_alloc (blk_alloc (blk_new w _) _) _
 have hrb0 : W1.heap[w.heap.size + 1]? = some (.cells cs 36 (0, 0)) := by
  rw [hW1]
  have := blk_alloc (blk_new (w.alloc (.cells #[.pointer (some ⟨g, 0, none⟩)] 23)) (.cells cs 36)) (.cells #[.int .i64 0] 64)
  simpa using this
 have hwb0 : W1.heap[w.heap.size + 1 + 1]? = some (.cells #[.int .i64 0] 64 (0, 0)) := by
  rw [hW1]
  have := blk_new ((w.alloc (.cells #[.pointer (some ⟨g, 0, none⟩)] 23)).alloc (.cells cs 36)) (.cells #[.int .i64 0] 64)
  simpa using this
 have hsc : W1.cell? ⟨w.heap.size, 0, none⟩ = some (.pointer (some ⟨g, 0, none⟩)) := (blk_cell hsb0 0).trans rfl
 have hk0 : W1.cell? ⟨w.heap.size + 1, 0, none⟩ = some (.int .i64 r.x.kd) := (blk_cell hrb0 0).trans h0
 have hk2 : W1.cell? ⟨w.heap.size + 1, 2, none⟩ = some (.slice A r.a.length c0) := (blk_cell hrb0 2).trans h2
 have hwc : W1.cell? ⟨w.heap.size + 1 + 1, 0, none⟩ = some (.int .i64 0) := (blk_cell hwb0 0).trans rfl
 have hwf : W1.frozen? ⟨w.heap.size + 1 + 1, 0, none⟩ = false := blk_frozen hwb0 0
 have HBW := Aside0.mk hbw
 have HSB := Aside0.mk hsc
 have HRB := Aside0.mk hrb0
 have HWB := Aside0.mk hwb0
 clear hbw hsb0 hrb0 hwb0
 by_cases hk : r.x.kd < 1 ∨ 3 < r.x.kd
 ·
  have hE : putE most R r why = 1 := by unfold putE; rw [if_pos hk]
  rw [hE]
  have fin : ∀ W2, W2 = W1.setCell ⟨w.heap.size + 1 + 1, 0, none⟩ (.int .i64 1) → PutPost base F g most ver R r w 1 (.returned (.int .i64 1)) W2 := by
   rintro W2 rfl
   have hb2 : Below w.heap.size w (W1.setCell ⟨w.heap.size + 1 + 1, 0, none⟩ (.int .i64 1)) := HBW.out.setCell (by show w.heap.size ≤ w.heap.size + 1 + 1; omega) _
   exact PutPost.no (by decide) (Chg.of_below hb2) (HS.out.newF hb2 HBS.out)
  have hcell := blk_cell (blk_set HWB.out 0 (.int .i64 1)) 0
  have FIN := Aside0.mk fin
  have HCL := Aside0.mk hcell
  clear fin hcell
  by_cases hk1 : r.x.kd < 1
  ·
   have b1 : decide (r.x.kd < 1) = true := decide_eq_true hk1
   go_enter_defers Tryz.func32, Tryz.ntmps32
   go_upto_region 1 with (fail)
   rw [← hW1]
   clear hW1
   go_wp2_with fail
   exact ⟨_, leave_cell rfl _ _ (w.heap.size + 1 + 1) 1 rfl HCL.out, FIN.out _ rfl⟩
  ·
   have b1 : decide (r.x.kd < 1) = false := decide_eq_false hk1
   have b2 : decide (3 < r.x.kd) = true := decide_eq_true (by omega)
   go_enter_defers Tryz.func32, Tryz.ntmps32
   go_upto_region 1 with (fail)
   rw [← hW1]
   clear hW1
   go_wp2_with fail
   exact ⟨_, leave_cell rfl _ _ (w.heap.size + 1 + 1) 1 rfl HCL.out, FIN.out _ rfl⟩
 ·
  have b1 : decide (r.x.kd < 1) = false := decide_eq_false (by omega)
  have b2 : decide (3 < r.x.kd) = false := decide_eq_false (by omega)
  by_cases hwz : why ≠ 0
  ·
   have hE : putE most R r why = why := by unfold putE; rw [if_neg hk, if_pos hwz]
   rw [hE]
   have HWZ := Aside0.mk hwz
   have b3 : (why != 0) = true := by simp [hwz]
   have b4 : decide (why ≠ 0) = true := decide_eq_true hwz
   clear hE
   go_enter_defers Tryz.func32, Tryz.ntmps32
   go_upto_region 1 with (fail)
   rw [← hW1]
   clear hW1
   go_wp2_with (go_at_call 62; refine (attr_Right.calls k A c0 r.a why W1 (Kd.C_below HR.out HBW.out) HC.out HW.out (env_below HE.out HBW.out)).mono ?_; rintro e W2 ⟨rfl, hb2⟩; have HB2 := Aside0.mk hb2; have HWB2 := Aside0.mk (blk_below HWB.out hb2); have hwc2 := (blk_cell (blk_below HWB.out hb2) 0).trans (show _ = some (.int .i64 0) from rfl); have hwf2 := blk_frozen (blk_below HWB.out hb2) 0; clear hb2)
   have hb3 : Below w.heap.size w (W2.setCell ⟨w.heap.size + 1 + 1, 0, none⟩ (.int .i64 why)) := (below_step HBW.out HB2.out).setCell (by show w.heap.size ≤ w.heap.size + 1 + 1; omega) _
   exact ⟨_, leave_cell rfl _ _ (w.heap.size + 1 + 1) why rfl (blk_cell (blk_set HWB2.out 0 (.int .i64 why)) 0), PutPost.no HWZ.out (Chg.of_below hb3) (HS.out.newF hb3 HBS.out)⟩
  ·
   have hwz' : why = 0 := by omega
   subst hwz'
   obtain ⟨hF, hla⟩ := HFI.out rfl
   have HF := Aside0.mk hF
   have HLA := Aside0.mk hla
   clear hF hla
   go_enter_defers Tryz.func32, Tryz.ntmps32
   go_upto_region 1 with (fail)
   rw [← hW1]
   clear hW1
   go_upto_if 31 with (go_at_call 62; refine (attr_Right.calls k A c0 r.a 0 W1 (Kd.C_below HR.out HBW.out) HC.out HW.out (env_below HE.out HBW.out)).mono ?_; rintro e W2 ⟨rfl, hb2⟩; have HB2 := Aside0.mk hb2; have HWB2 := Aside0.mk (blk_below HWB.out hb2); have hk2 := (blk_cell (blk_below HRB.out hb2) 0).trans h0; clear hb2)
   obtain ⟨l, m1, m2, FR, FM, F1, F2, hP⟩ := HS.out
   obtain ⟨A3, c3, rfl⟩ := Kd.R_slice hP.rec_
   have HP := Aside0.mk hP
   have HBW2 := Aside0.mk (below_step HBW.out HB2.out)
   have HSB2 := Aside0.mk ((HB2.out.cell (World.block_lt_of_cell? W1 _ HSB.out)).trans HSB.out)
   have HRB2 := Aside0.mk (blk_below HRB.out HB2.out)
   have HSK : Aside0 ((skeyB r).size ≤ maxLen) := ⟨by
    have hz1 := quoteB_size _ HF.out.nm
    have hz2 := textB_size HF.out.tx
    unfold skeyB
    rw [ByteArray.size_append]
    unfold maxLen
    omega⟩
   have out : ∀ (x : Int) (W : World) (tm : Array Value), x ≠ 0 → putE most R r 0 = x → tm.getD 4 undef = .pointer (some ⟨w.heap.size + 1 + 1, 0, none⟩) → Below W2.heap.size W2 W → Leaves Tryz.prog Tryz.f32 tm (PutPost base F g most ver R r w (putE most R r 0))
     [{ target := .fn (.func 63) #[.pointer (some ⟨w.heap.size + 1 + 1, 0, none⟩), .pointer (some ⟨w.heap.size, 0, none⟩), .pointer (some ⟨w.heap.size + 1, 0, none⟩)], args := #[] }] .returning (W.setCell ⟨w.heap.size + 1 + 1, 0, none⟩ (.int .i64 x)) := by
    intro x W tm hx0 hpe htm hbW
    have hwb := blk_set (blk_below HWB2.out hbW) 0 (.int .i64 x)
    have hcx := (blk_cell hwb 0).trans (show _ = some (.int .i64 x) from rfl)
    refine leaves_cons (f := 63) (args := #[.pointer (some ⟨w.heap.size + 1 + 1, 0, none⟩), .pointer (some ⟨w.heap.size, 0, none⟩), .pointer (some ⟨w.heap.size + 1, 0, none⟩)]) (by simp) (by simp [go_sem]) ?_
    refine (put1_no (w.heap.size + 1 + 1) _ _ x hx0 _ hcx .returning).mono ?_
    rintro e u' w'' ⟨rfl, ⟨v, rfl⟩, rfl⟩
    have hb3 : Below w.heap.size w (W.setCell ⟨w.heap.size + 1 + 1, 0, none⟩ (.int .i64 x)) := (below_step HBW2.out hbW).setCell (by show w.heap.size ≤ w.heap.size + 1 + 1; omega) _
    rw [hpe]
    exact ⟨_, leave_cell rfl _ _ (w.heap.size + 1 + 1) x htm hcx, PutPost.no hx0 (Chg.of_below hb3) (HS.out.newF hb3 HBS.out)⟩
   have OUT := Aside0.mk out
   clear out hP
   go_cut [6, 7] from 29 to 47 (fun _ _ wc => Below W2.heap.size W2 wc ∧ ¬ oldP R r)
   case first =>
    by_cases hkk : r.x.kd = 1
    ·
     have b3 : (r.x.kd == 1) = true := by simp [hkk]
     have b4 : decide (r.x.kd = 1) = true := decide_eq_true hkk
     have HKK := Aside0.mk hkk
     clear hkk
     go_upto_region 10 with (fail)
     refine wp_region_noPanic ?_
     refine start_ (n := 11) (S := fun w' => Below W2.heap.size W2 w') (ds := [10]) #[false, false, false, false, false, false, false, false, false, false, false] (by kernel_rfl) rfl rfl (below_drew1 (Below.refl _ _)) (fun hHeld => ?_)
     refine with_tabW store_Put.tab10 store_Put.bits10 (fun HT_ HW_ => ?_)
     generalize W2.drew = W0 at hHeld ⊢
     refine take_ (i := 0) (N := some 33) (v := ?_) (a' := ?_) #[true, false, false, false, false, false, false, false, false, false, false] rfl rfl (take_ofW HT_.out HW_.out (by kernel_rfl)) (fun _ _ _ h => h) (Or.inl ⟨by rfl, ?_⟩) hHeld ?_ ?_
     rotate_left
     ·
      rintro w' hw
      have y := (hw.cell (World.block_lt_of_cell? W2 _ HSB2.out)).trans HSB2.out
      go_simp
      with_reducible rfl
     rotate_left
     ·
      simp only [Act.put, List.setIfInBounds_toArray, List.set_cons_zero, List.set_cons_succ, i64_w, i32_w]
      rfl
     refine pure_ (i := 1) (N := some 34) (v := ?_) (a' := ?_) #[true, true, false, false, false, false, false, false, false, false, false] rfl rfl (any_of HT_.out (by kernel_rfl)) (fun _ _ _ h => h) (Or.inl ⟨by rfl, ?_⟩) ?_ ?_
     rotate_left
     ·
      intro w'
      go_simp
      with_reducible rfl
     rotate_left
     ·
      simp only [Act.put, List.setIfInBounds_toArray, List.set_cons_zero, List.set_cons_succ, i64_w, i32_w]
      rfl
     refine pure_ (i := 2) (N := some 35) (v := ?_) (a' := ?_) #[true, true, true, false, false, false, false, false, false, false, false] rfl rfl (any_of HT_.out (by kernel_rfl)) (fun _ _ _ h => h) (Or.inl ⟨by rfl, ?_⟩) ?_ ?_
     rotate_left
     ·
      intro w'
      go_simp
      with_reducible rfl
     rotate_left
     ·
      simp only [Act.put, List.setIfInBounds_toArray, List.set_cons_zero, List.set_cons_succ, i64_w, i32_w]
      rfl
     refine take_ (i := 3) (N := some 36) (v := ?_) (a' := ?_) #[true, true, true, true, false, false, false, false, false, false, false] rfl rfl (take_ofW HT_.out HW_.out (by kernel_rfl)) (fun _ _ _ h => h) (Or.inl ⟨by rfl, ?_⟩) hHeld ?_ ?_
     rotate_left
     ·
      rintro w' hw
      refine exec_load36 (x := .tmp 3) ?_ ?_ (blk_below HRB2.out hw) hs
      ·
       rfl
      ·
       rfl
     rotate_left
     ·
      simp only [Act.put, List.setIfInBounds_toArray, List.set_cons_zero, List.set_cons_succ, i64_w, i32_w]
      rfl
     refine one_ (i := 4) (N := some 37) #[true, true, true, true, true, false, false, false, false, false, false] rfl rfl (one_of HT_.out (by kernel_rfl)) (by decide) (fun K hK => ?_)
     refine goes_ Tryz.func65 (by kernel_rfl) rfl #[.agg cs] (by rfl) rfl rfl (by (try simp only [List.map_toArray, List.map_cons, List.map_nil]); first | done | rfl) ?_
     refine (HCS.out ▸ seriesKey_walk r HF.out A c0 W0 (Kd.C_below HR.out (below_step HBW2.out hHeld)) HC.out).mono ?_
     rintro e w2 ⟨rfl, hd⟩
     refine ⟨_, rfl, ?_⟩
     refine hK.out _ _ (below_step hHeld hd) (fun hHeld => ?_)
     clear hK K hd
     refine norm_ (a' := ?_) ?_ ?_
     rotate_left
     ·
      show Act.put _ (some 37) _ = _
      simp only [Act.put, List.setIfInBounds_toArray, List.set_cons_zero, List.set_cons_succ, i64_w, i32_w]
      rfl
     refine one_ (i := 5) (N := some 38) #[true, true, true, true, true, true, false, false, false, false, false] rfl rfl (one_of HT_.out (by kernel_rfl)) (by decide) (fun K hK => ?_)
     refine goes_ Tryz.func64 (by kernel_rfl) rfl #[.pointer (some ⟨g, 2, none⟩), .string (skeyB r)] (by rfl) rfl rfl (by (try simp only [List.map_toArray, List.map_cons, List.map_nil]); first | done | rfl) ?_
     refine (last_ser' g 2 m1 (skeyB r) w2 base R.length F1 (timesOf R) HSK.out ((blk_cell (blk_below HP.out.mp.blk (below_step HBW2.out hHeld)) 2).trans rfl) (HP.out.mp.ser.step (fun k _ hk => (below_step HBW2.out hHeld).block k hk))).mono ?_
     rintro e w3 ⟨t9, ok9, HT9, rfl, hd⟩
     refine ⟨_, rfl, ?_⟩
     refine hK.out _ _ (below_step hHeld (by obtain ⟨n, rfl⟩ := hd; exact pw_below_drewN (Below.refl _ _) n)) (fun hHeld => ?_)
     clear hK K hd
     refine norm_ (a' := ?_) ?_ ?_
     rotate_left
     ·
      show Act.put _ (some 38) _ = _
      simp only [Act.put, List.setIfInBounds_toArray, List.set_cons_zero, List.set_cons_succ, i64_w, i32_w]
      rfl
     refine pure_ (i := 6) (N := some 32) (v := ?_) (a' := ?_) #[true, true, true, true, true, true, true, false, false, false, false] rfl rfl (any_of HT_.out (by kernel_rfl)) (fun _ _ _ h => h) (Or.inl ⟨by rfl, ?_⟩) ?_ ?_
     rotate_left
     ·
      intro w'
      go_simp
      with_reducible rfl
     rotate_left
     ·
      simp only [Act.put, List.setIfInBounds_toArray, List.set_cons_zero, List.set_cons_succ, i64_w, i32_w]
      rfl
     refine pure_ (i := 7) (N := some 39) (v := ?_) (a' := ?_) #[true, true, true, true, true, true, true, true, false, false, false] rfl rfl (any_of HT_.out (by kernel_rfl)) (fun _ _ _ h => h) (Or.inl ⟨by rfl, ?_⟩) ?_ ?_
     rotate_left
     ·
      intro w'
      go_simp
      with_reducible rfl
     rotate_left
     ·
      simp only [Act.put, List.setIfInBounds_toArray, List.set_cons_zero, List.set_cons_succ, i64_w, i32_w]
      rfl
     refine pure_ (i := 8) (N := some 40) (v := ?_) (a' := ?_) #[true, true, true, true, true, true, true, true, true, false, false] rfl rfl (any_of HT_.out (by kernel_rfl)) (fun _ _ _ h => h) (Or.inl ⟨by rfl, ?_⟩) ?_ ?_
     rotate_left
     ·
      intro w'
      go_simp
      with_reducible rfl
     rotate_left
     ·
      simp only [Act.put, List.setIfInBounds_toArray, List.set_cons_zero, List.set_cons_succ, i64_w, i32_w]
      rfl
     refine pure_ (i := 9) (N := some 6) (v := ?_) (a' := ?_) #[true, true, true, true, true, true, true, true, true, true, false] rfl rfl (any_of HT_.out (by kernel_rfl)) (fun _ _ _ h => h) (Or.inl ⟨by rfl, ?_⟩) ?_ ?_
     rotate_left
     ·
      intro w'
      go_simp
      with_reducible rfl
     rotate_left
     ·
      simp only [Act.put, List.setIfInBounds_toArray, List.set_cons_zero, List.set_cons_succ, i64_w, i32_w]
      rfl
     refine pure_ (i := 10) (N := some 7) (v := ?_) (a' := ?_) #[true, true, true, true, true, true, true, true, true, true, true] rfl rfl (any_of HT_.out (by kernel_rfl)) (fun _ _ _ h => h) (Or.inl ⟨by rfl, ?_⟩) ?_ ?_
     rotate_left
     ·
      intro w'
      go_simp
      with_reducible rfl
     rotate_left
     ·
      simp only [Act.put, List.setIfInBounds_toArray, List.set_cons_zero, List.set_cons_succ, i64_w, i32_w]
      rfl
     refine done_ (done_of HT_.out (by kernel_rfl)) ?_
     refine NoPanic.normal ?_
     have y3 := (blk_cell (blk_below HRB2.out hHeld) 3).trans h3
     have yw := (blk_cell (blk_below HWB2.out hHeld) 0).trans (show _ = some (.int .i64 0) from rfl)
     have yf := blk_frozen (blk_below HWB2.out hHeld) 0
     have HH := Aside0.mk hHeld
     clear hHeld
     have HOLD : Aside0 (oldP R r ↔ ok9 = true ∧ r.x.tm ≤ t9) := ⟨⟨fun h => ⟨HT9.out.2.2 h.2.1, HT9.out.1 ▸ h.2.2⟩, fun h => ⟨HKK.out, HT9.out.2.1 h.1, HT9.out.1.symm ▸ h.2⟩⟩⟩
     have HPE : Aside0 (oldP R r → putE most R r 0 = 9) := ⟨fun h => by unfold putE; rw [if_neg (by have := HKK.out; omega), if_neg (by simp), if_pos h]⟩
     cases ok9 with
     | true =>
      by_cases hle : r.x.tm ≤ t9
      ·
       have b6 := decide_eq_true hle
       have HLE := Aside0.mk hle
       go_wp2_with fail
       refine OUT.out 9 _ _ (by decide) (HPE.out (HOLD.out.2 ⟨by trivial, HLE.out⟩)) ?_ HH.out
       rfl
      ·
       have b6 := decide_eq_false hle
       have HLE : Aside0 (t9 < r.x.tm) := ⟨by omega⟩
       go_wp2_with fail
       go_meet
       case rel => exact ⟨HH.out, fun h => by have h1 := (HOLD.out.1 h).2; have h2 := HLE.out; omega⟩
     | false =>
      go_wp2_with fail
      go_meet
      case rel => exact ⟨HH.out, fun h => by have h1 := (HOLD.out.1 h).1; cases h1⟩
    ·
     have b3 : (r.x.kd == 1) = false := by simp [hkk]
     have b4 : decide (r.x.kd = 1) = false := decide_eq_false hkk
     have HKK := Aside0.mk hkk
     clear hkk
     go_wp2_with fail
     go_meet
     case rel => exact ⟨Below.refl _ _, fun h => HKK.out h.1⟩
   case rest =>
    revert hcut
    generalize wc = wz
    intro hcut
    obtain ⟨hbc, hno⟩ := hcut
    have HC2 := Aside0.mk hbc
    have HNO := Aside0.mk hno
    have HBC := Aside0.mk (below_step HBW2.out hbc)
    have HSB3 := Aside0.mk ((hbc.cell (World.block_lt_of_cell? W2 _ HSB2.out)).trans HSB2.out)
    have HRB3 := Aside0.mk (blk_below HRB2.out hbc)
    have hk3 := (blk_cell (blk_below HRB2.out hbc) 0).trans h0
    clear hbc hno
    go_upto_if 50 with (fail)
    go_cut [8, 9] from 48 to 63 (fun _ _ wd => Below wz.heap.size wz wd ∧ ¬ twiceP R r)
    case first =>
     by_cases hkk : r.x.kd = 3
     ·
      have b3 : (r.x.kd == 3) = true := by simp [hkk]
      have b4 : decide (r.x.kd = 3) = true := decide_eq_true hkk
      have HKK := Aside0.mk hkk
      clear hkk
      go_upto_region 14 with (fail)
      refine wp_region_noPanic ?_
      refine start_ (n := 14) (S := fun w' => Below wz.heap.size wz w') (ds := [13]) #[false, false, false, false, false, false, false, false, false, false, false, false, false, false] (by kernel_rfl) rfl rfl (below_drew1 (Below.refl _ _)) (fun hHeld => ?_)
      refine with_tabW store_Put.tab14 store_Put.bits14 (fun HT_ HW_ => ?_)
      generalize wz.drew = W0 at hHeld ⊢
      refine take_ (i := 0) (N := some 52) (v := ?_) (a' := ?_) #[true, false, false, false, false, false, false, false, false, false, false, false, false, false] rfl rfl (take_ofW HT_.out HW_.out (by kernel_rfl)) (fun _ _ _ h => h) (Or.inl ⟨by rfl, ?_⟩) hHeld ?_ ?_
      rotate_left
      ·
       rintro w' hw
       have y := (hw.cell (World.block_lt_of_cell? wz _ HSB3.out)).trans HSB3.out
       go_simp
       with_reducible rfl
      rotate_left
      ·
       simp only [Act.put, List.setIfInBounds_toArray, List.set_cons_zero, List.set_cons_succ, i64_w, i32_w]
       rfl
      refine pure_ (i := 1) (N := some 53) (v := ?_) (a' := ?_) #[true, true, false, false, false, false, false, false, false, false, false, false, false, false] rfl rfl (any_of HT_.out (by kernel_rfl)) (fun _ _ _ h => h) (Or.inl ⟨by rfl, ?_⟩) ?_ ?_
      rotate_left
      ·
       intro w'
       go_simp
       with_reducible rfl
      rotate_left
      ·
       simp only [Act.put, List.setIfInBounds_toArray, List.set_cons_zero, List.set_cons_succ, i64_w, i32_w]
       rfl
      refine pure_ (i := 2) (N := some 54) (v := ?_) (a' := ?_) #[true, true, true, false, false, false, false, false, false, false, false, false, false, false] rfl rfl (any_of HT_.out (by kernel_rfl)) (fun _ _ _ h => h) (Or.inl ⟨by rfl, ?_⟩) ?_ ?_
      rotate_left
      ·
       intro w'
       go_simp
       with_reducible rfl
      rotate_left
      ·
       simp only [Act.put, List.setIfInBounds_toArray, List.set_cons_zero, List.set_cons_succ, i64_w, i32_w]
       rfl
      refine pure_ (i := 3) (N := some 55) (v := ?_) (a' := ?_) #[true, true, true, true, false, false, false, false, false, false, false, false, false, false] rfl rfl (any_of HT_.out (by kernel_rfl)) (fun _ _ _ h => h) (Or.inl ⟨by rfl, ?_⟩) ?_ ?_
      rotate_left
      ·
       intro w'
       go_simp
       with_reducible rfl
      rotate_left
      ·
       simp only [Act.put, List.setIfInBounds_toArray, List.set_cons_zero, List.set_cons_succ, i64_w, i32_w]
       rfl
      refine pure_ (i := 5) (N := some 57) (v := ?_) (a' := ?_) #[true, true, true, true, false, true, false, false, false, false, false, false, false, false] rfl rfl (any_of HT_.out (by kernel_rfl)) (fun _ _ _ h => h) (Or.inl ⟨by rfl, ?_⟩) ?_ ?_
      rotate_left
      ·
       intro w'
       go_simp
       with_reducible rfl
      rotate_left
      ·
       simp only [Act.put, List.setIfInBounds_toArray, List.set_cons_zero, List.set_cons_succ, i64_w, i32_w]
       rfl
      refine take_ (i := 4) (N := some 56) (v := ?_) (a' := ?_) #[true, true, true, true, true, true, false, false, false, false, false, false, false, false] rfl rfl (take_ofW HT_.out HW_.out (by kernel_rfl)) (fun _ _ _ h => h) (Or.inl ⟨by rfl, ?_⟩) hHeld ?_ ?_
      rotate_left
      ·
       rintro w' hw
       refine exec_mid33 (x := .tmp 55) ?_ ?_ (cs := r.x.tr.map (Value.int .u8)) (fun j v hv => (blk_cell (blk_below HRB3.out hw) (8 + j)).trans (H8.out j v hv)) (by simp [HX.out.tr])
       ·
        rfl
       ·
        rfl
      rotate_left
      ·
       simp only [Act.put, List.setIfInBounds_toArray, List.set_cons_zero, List.set_cons_succ, i64_w, i32_w]
       rfl
      refine take_ (i := 6) (N := some 58) (v := ?_) (a' := ?_) #[true, true, true, true, true, true, true, false, false, false, false, false, false, false] rfl rfl (take_ofW HT_.out HW_.out (by kernel_rfl)) (fun _ _ _ h => h) (Or.inl ⟨by rfl, ?_⟩) hHeld ?_ ?_
      rotate_left
      ·
       rintro w' hw
       refine exec_mid34 (x := .tmp 57) ?_ ?_ (cs := r.x.sid.map (Value.int .u8)) (fun j v hv => (blk_cell (blk_below HRB3.out hw) (24 + j)).trans (H24.out j v hv)) (by simp [HX.out.sid])
       ·
        rfl
       ·
        rfl
      rotate_left
      ·
       simp only [Act.put, List.setIfInBounds_toArray, List.set_cons_zero, List.set_cons_succ, i64_w, i32_w]
       rfl
      refine take_ (i := 7) (N := some 59) (v := ?_) (a' := ?_) #[true, true, true, true, true, true, true, true, false, false, false, false, false, false] rfl rfl (take_ofW HT_.out HW_.out (by kernel_rfl)) (fun _ _ _ h => h) (Or.inl ⟨by rfl, ?_⟩) hHeld ?_ ?_
      rotate_left
      ·
       rintro w' hw
       refine exec_build102 (x := .tmp 56) (y := .tmp 58) (p := (r.x.tr, r.x.sid)) HDP.out ?_ ?_ ?_
       ·
        rfl
       ·
        rfl
       ·
        rfl
      rotate_left
      ·
       simp only [Act.put, List.setIfInBounds_toArray, List.set_cons_zero, List.set_cons_succ, i64_w, i32_w]
       rfl
      refine one_ (i := 8) (N := some 60) #[true, true, true, true, true, true, true, true, true, false, false, false, false, false] rfl rfl (one_of HT_.out (by kernel_rfl)) (by decide) (fun K hK => ?_)
      refine goes_ Tryz.func66 (by kernel_rfl) rfl #[.pointer (some ⟨g, 3, none⟩), spVal (r.x.tr, r.x.sid)] (by rfl) rfl rfl (by (try simp only [List.map_toArray, List.map_cons, List.map_nil]); first | done | rfl) ?_
      refine (last_span' g 3 m2 (r.x.tr, r.x.sid) W0 base R.length F2 (spansOf R) HDP.out ((blk_cell (blk_below HP.out.mp.blk (below_step HBC.out hHeld)) 3).trans rfl) (HP.out.mp.spn.step (fun k _ hk => (below_step HBC.out hHeld).block k hk))).mono ?_
      rintro e w2 ⟨ok8, HT8, ⟨z, rfl⟩, hd⟩
      refine ⟨_, rfl, ?_⟩
      refine hK.out _ _ (below_step hHeld hd) (fun hHeld => ?_)
      clear hK K hd
      refine norm_ (a' := ?_) ?_ ?_
      rotate_left
      ·
       show Act.put _ (some 60) _ = _
       simp only [Act.put, List.setIfInBounds_toArray, List.set_cons_zero, List.set_cons_succ, i64_w, i32_w]
       rfl
      refine pure_ (i := 9) (N := some 51) (v := ?_) (a' := ?_) #[true, true, true, true, true, true, true, true, true, true, false, false, false, false] rfl rfl (any_of HT_.out (by kernel_rfl)) (fun _ _ _ h => h) (Or.inl ⟨by rfl, ?_⟩) ?_ ?_
      rotate_left
      ·
       intro w'
       go_simp
       with_reducible rfl
      rotate_left
      ·
       simp only [Act.put, List.setIfInBounds_toArray, List.set_cons_zero, List.set_cons_succ, i64_w, i32_w]
       rfl
      refine pure_ (i := 10) (N := some 61) (v := ?_) (a' := ?_) #[true, true, true, true, true, true, true, true, true, true, true, false, false, false] rfl rfl (any_of HT_.out (by kernel_rfl)) (fun _ _ _ h => h) (Or.inl ⟨by rfl, ?_⟩) ?_ ?_
      rotate_left
      ·
       intro w'
       go_simp
       with_reducible rfl
      rotate_left
      ·
       simp only [Act.put, List.setIfInBounds_toArray, List.set_cons_zero, List.set_cons_succ, i64_w, i32_w]
       rfl
      refine pure_ (i := 11) (N := some 62) (v := ?_) (a' := ?_) #[true, true, true, true, true, true, true, true, true, true, true, true, false, false] rfl rfl (any_of HT_.out (by kernel_rfl)) (fun _ _ _ h => h) (Or.inl ⟨by rfl, ?_⟩) ?_ ?_
      rotate_left
      ·
       intro w'
       go_simp
       with_reducible rfl
      rotate_left
      ·
       simp only [Act.put, List.setIfInBounds_toArray, List.set_cons_zero, List.set_cons_succ, i64_w, i32_w]
       rfl
      refine pure_ (i := 12) (N := some 8) (v := ?_) (a' := ?_) #[true, true, true, true, true, true, true, true, true, true, true, true, true, false] rfl rfl (any_of HT_.out (by kernel_rfl)) (fun _ _ _ h => h) (Or.inl ⟨by rfl, ?_⟩) ?_ ?_
      rotate_left
      ·
       intro w'
       go_simp
       with_reducible rfl
      rotate_left
      ·
       simp only [Act.put, List.setIfInBounds_toArray, List.set_cons_zero, List.set_cons_succ, i64_w, i32_w]
       rfl
      refine pure_ (i := 13) (N := some 9) (v := ?_) (a' := ?_) #[true, true, true, true, true, true, true, true, true, true, true, true, true, true] rfl rfl (any_of HT_.out (by kernel_rfl)) (fun _ _ _ h => h) (Or.inl ⟨by rfl, ?_⟩) ?_ ?_
      rotate_left
      ·
       intro w'
       go_simp
       with_reducible rfl
      rotate_left
      ·
       simp only [Act.put, List.setIfInBounds_toArray, List.set_cons_zero, List.set_cons_succ, i64_w, i32_w]
       rfl
      refine done_ (done_of HT_.out (by kernel_rfl)) ?_
      refine NoPanic.normal ?_
      have hH2 := below_step HC2.out (below_step (Below.refl _ _) hHeld)
      have yw := (blk_cell (blk_below HWB2.out hH2) 0).trans (show _ = some (.int .i64 0) from rfl)
      have yf := blk_frozen (blk_below HWB2.out hH2) 0
      have HH := Aside0.mk hHeld
      have HH2 := Aside0.mk hH2
      clear hHeld hH2
      have HTW : Aside0 (twiceP R r ↔ ok8 = true) := ⟨⟨fun h => HT8.out.2 h.2, fun h => ⟨HKK.out, HT8.out.1 h⟩⟩⟩
      have HPE : Aside0 (twiceP R r → putE most R r 0 = 6) := ⟨fun h => by unfold putE; rw [if_neg (by have := HKK.out; omega), if_neg (by simp), if_neg HNO.out, if_pos h]⟩
      cases ok8 with
      | true =>
       go_wp2_with fail
       refine OUT.out 6 _ _ (by decide) (HPE.out (HTW.out.2 (by trivial))) ?_ HH2.out
       rfl
      | false =>
       go_wp2_with fail
       go_meet
       case rel => exact ⟨HH.out, fun h => by have h1 := HTW.out.1 h; cases h1⟩
     ·
      have b3 : (r.x.kd == 3) = false := by simp [hkk]
      have b4 : decide (r.x.kd = 3) = false := decide_eq_false hkk
      have HKK := Aside0.mk hkk
      clear hkk
      go_wp2_with fail
      go_meet
      case rel => exact ⟨Below.refl _ _, fun h => HKK.out h.1⟩
    case rest =>
     obtain ⟨hbd, hno⟩ := hcut
     have HNT := Aside0.mk hno
     have HBD := Aside0.mk (below_step HBC.out hbd)
     have HBD2 := Aside0.mk (below_step HC2.out hbd)
     have HSB4 := Aside0.mk ((hbd.cell (World.block_lt_of_cell? wz _ HSB3.out)).trans HSB3.out)
     have HST4 := Aside0.mk (blk_below HP.out.mp.blk HBD.out)
     clear hbd hno hk3
     go_upto_region 17 with (fail)
     refine wp_region_noPanic ?_
     refine start_ (n := 10) (S := fun w' => Below wc.heap.size wc w') (ds := [9]) #[false, false, false, false, false, false, false, false, false, false] (by kernel_rfl) rfl rfl (below_drew1 (Below.refl _ _)) (fun hHeld => ?_)
     refine with_tabW store_Put.tab17 store_Put.bits17 (fun HT_ HW_ => ?_)
     generalize wc.drew = W0 at hHeld ⊢
     refine take_ (i := 0) (N := some 64) (v := ?_) (a' := ?_) #[true, false, false, false, false, false, false, false, false, false] rfl rfl (take_ofW HT_.out HW_.out (by kernel_rfl)) (fun _ _ _ h => h) (Or.inl ⟨by rfl, ?_⟩) hHeld ?_ ?_
     rotate_left
     ·
      rintro w' hw
      have y := (hw.cell (World.block_lt_of_cell? wc _ HSB4.out)).trans HSB4.out
      go_simp
      with_reducible rfl
     rotate_left
     ·
      simp only [Act.put, List.setIfInBounds_toArray, List.set_cons_zero, List.set_cons_succ, i64_w, i32_w]
      rfl
     refine take_ (i := 5) (N := some 69) (v := ?_) (a' := ?_) #[true, false, false, false, false, true, false, false, false, false] rfl rfl (take_ofW HT_.out HW_.out (by kernel_rfl)) (fun _ _ _ h => h) (Or.inl ⟨by rfl, ?_⟩) hHeld ?_ ?_
     rotate_left
     ·
      rintro w' hw
      have y := (hw.cell (World.block_lt_of_cell? wc _ HSB4.out)).trans HSB4.out
      go_simp
      with_reducible rfl
     rotate_left
     ·
      simp only [Act.put, List.setIfInBounds_toArray, List.set_cons_zero, List.set_cons_succ, i64_w, i32_w]
      rfl
     refine pure_ (i := 1) (N := some 65) (v := ?_) (a' := ?_) #[true, true, false, false, false, true, false, false, false, false] rfl rfl (any_of HT_.out (by kernel_rfl)) (fun _ _ _ h => h) (Or.inl ⟨by rfl, ?_⟩) ?_ ?_
     rotate_left
     ·
      intro w'
      go_simp
      with_reducible rfl
     rotate_left
     ·
      simp only [Act.put, List.setIfInBounds_toArray, List.set_cons_zero, List.set_cons_succ, i64_w, i32_w]
      rfl
     refine pure_ (i := 2) (N := some 66) (v := ?_) (a' := ?_) #[true, true, true, false, false, true, false, false, false, false] rfl rfl (any_of HT_.out (by kernel_rfl)) (fun _ _ _ h => h) (Or.inl ⟨by rfl, ?_⟩) ?_ ?_
     rotate_left
     ·
      intro w'
      go_simp
      with_reducible rfl
     rotate_left
     ·
      simp only [Act.put, List.setIfInBounds_toArray, List.set_cons_zero, List.set_cons_succ, i64_w, i32_w]
      rfl
     refine pure_ (i := 6) (N := some 70) (v := ?_) (a' := ?_) #[true, true, true, false, false, true, true, false, false, false] rfl rfl (any_of HT_.out (by kernel_rfl)) (fun _ _ _ h => h) (Or.inl ⟨by rfl, ?_⟩) ?_ ?_
     rotate_left
     ·
      intro w'
      go_simp
      with_reducible rfl
     rotate_left
     ·
      simp only [Act.put, List.setIfInBounds_toArray, List.set_cons_zero, List.set_cons_succ, i64_w, i32_w]
      rfl
     refine pure_ (i := 7) (N := some 71) (v := ?_) (a' := ?_) #[true, true, true, false, false, true, true, true, false, false] rfl rfl (any_of HT_.out (by kernel_rfl)) (fun _ _ _ h => h) (Or.inl ⟨by rfl, ?_⟩) ?_ ?_
     rotate_left
     ·
      intro w'
      go_simp
      with_reducible rfl
     rotate_left
     ·
      simp only [Act.put, List.setIfInBounds_toArray, List.set_cons_zero, List.set_cons_succ, i64_w, i32_w]
      rfl
     refine take_ (i := 3) (N := some 67) (v := ?_) (a' := ?_) #[true, true, true, true, false, true, true, true, false, false] rfl rfl (take_ofW HT_.out HW_.out (by kernel_rfl)) (fun _ _ _ h => h) (Or.inl ⟨by rfl, ?_⟩) hHeld ?_ ?_
     rotate_left
     ·
      rintro w' hw
      have y := (blk_cell (blk_below HST4.out hw) 1).trans (show _ = some (.slice A3 R.length c3) from rfl)
      go_simp
      with_reducible rfl
     rotate_left
     ·
      simp only [Act.put, List.setIfInBounds_toArray, List.set_cons_zero, List.set_cons_succ, i64_w, i32_w]
      rfl
     refine pure_ (i := 4) (N := some 68) (v := ?_) (a' := ?_) #[true, true, true, true, true, true, true, true, false, false] rfl rfl (any_of HT_.out (by kernel_rfl)) (fun _ _ _ h => h) (Or.inl ⟨by rfl, ?_⟩) ?_ ?_
     rotate_left
     ·
      intro w'
      go_simp
      with_reducible rfl
     rotate_left
     ·
      simp only [Act.put, List.setIfInBounds_toArray, List.set_cons_zero, List.set_cons_succ, i64_w, i32_w]
      rfl
     refine take_ (i := 8) (N := some 72) (v := ?_) (a' := ?_) #[true, true, true, true, true, true, true, true, true, false] rfl rfl (take_ofW HT_.out HW_.out (by kernel_rfl)) (fun _ _ _ h => h) (Or.inl ⟨by rfl, ?_⟩) hHeld ?_ ?_
     rotate_left
     ·
      rintro w' hw
      have y := (blk_cell (blk_below HST4.out hw) 0).trans (show _ = some (.int .i64 most) from rfl)
      go_simp
      with_reducible rfl
     rotate_left
     ·
      simp only [Act.put, List.setIfInBounds_toArray, List.set_cons_zero, List.set_cons_succ, i64_w, i32_w]
      rfl
     refine pure_ (i := 9) (N := some 73) (v := ?_) (a' := ?_) #[true, true, true, true, true, true, true, true, true, true] rfl rfl (any_of HT_.out (by kernel_rfl)) (fun _ _ _ h => h) (Or.inl ⟨by rfl, ?_⟩) ?_ ?_
     rotate_left
     ·
      intro w'
      go_simp
      with_reducible rfl
     rotate_left
     ·
      simp only [Act.put, List.setIfInBounds_toArray, List.set_cons_zero, List.set_cons_succ, i64_w, i32_w]
      rfl
     refine done_ (done_of HT_.out (by kernel_rfl)) ?_
     refine NoPanic.normal ?_
     have hH2 := below_step HBD2.out hHeld
     have yw := (blk_cell (blk_below HWB2.out hH2) 0).trans (show _ = some (.int .i64 0) from rfl)
     have yf := blk_frozen (blk_below HWB2.out hH2) 0
     have HH2 := Aside0.mk hH2
     clear hHeld hH2
     by_cases hfull : most ≤ (R.length : Int)
     ·
      have b5 := decide_eq_true hfull
      have HFU := Aside0.mk hfull
      have HPE : Aside0 (putE most R r 0 = 7) := ⟨by unfold putE; rw [if_neg (by have := (decide_eq_false_iff_not.1 b1); have := (decide_eq_false_iff_not.1 b2); omega), if_neg (by simp), if_neg HNO.out, if_neg HNT.out, if_pos hfull]⟩
      rw [b5]
      clear hfull b5
      go_wp2_with fail
      refine OUT.out 7 _ _ (by decide) HPE.out ?_ HH2.out
      rfl
     ·
      have b5 := decide_eq_false hfull
      have HPE : Aside0 (putE most R r 0 = 0) := ⟨by unfold putE; rw [if_neg (by have := (decide_eq_false_iff_not.1 b1); have := (decide_eq_false_iff_not.1 b2); omega), if_neg (by simp), if_neg HNO.out, if_neg HNT.out, if_neg hfull]⟩
      rw [b5]
      clear hfull b5
      go_wp2_with fail
      have hb3 := below_step HBW2.out HH2.out
      have hb4 : Below w.heap.size w (W0.setCell ⟨w.heap.size + 1 + 1, 0, none⟩ (.int .i64 0)) := hb3.setCell (by show w.heap.size ≤ w.heap.size + 1 + 1; omega) _
      have hwb := blk_set (blk_below HWB2.out HH2.out) 0 (.int .i64 0)
      have hrb := blk_far (blk_below HRB2.out HH2.out) (p := ⟨w.heap.size + 1 + 1, 0, none⟩) (by simp) (.int .i64 0)
      have hsb : (W0.setCell ⟨w.heap.size + 1 + 1, 0, none⟩ (.int .i64 0)).cell? ⟨w.heap.size, 0, none⟩ = some (.pointer (some ⟨g, 0, none⟩)) := (World.cell?_setCell_other W0 ⟨w.heap.size + 1 + 1, 0, none⟩ ⟨w.heap.size, 0, none⟩ _ (fun e => by have h7 : w.heap.size + 1 + 1 = w.heap.size := congrArg Addr.block e; omega)).trans ((HH2.out.cell (World.block_lt_of_cell? W2 _ HSB2.out)).trans HSB2.out)
      have hcx := (blk_cell hwb 0).trans (show _ = some (.int .i64 0) from rfl)
      have har := Kd.C_below HR.out hb4
      have hSt := HS.out.below hb4
      rw [HCS.out] at hrb
      generalize W0.setCell ⟨w.heap.size + 1 + 1, 0, none⟩ (.int .i64 0) = W5 at hb4 hwb hrb hsb hcx har hSt ⊢
      have hw5 := hb4.size
      have hnF : ∀ q, w.heap.size ≤ q → ¬ F q := fun q hq e => by have := (HLT.out q e).2; omega
      refine leaves_cons (f := 63) (args := #[.pointer (some ⟨w.heap.size + 1 + 1, 0, none⟩), .pointer (some ⟨w.heap.size, 0, none⟩), .pointer (some ⟨w.heap.size + 1, 0, none⟩)]) (by simp) (by simp [go_sem]) ?_
      refine (put1_ok (w.heap.size + 1 + 1) w.heap.size (w.heap.size + 1) g most ver R F r A c0 W5 base hSt HF.out har HC.out HLA.out hcx hsb hrb (hnF _ (Nat.le_refl _)) (hnF _ (by omega)) HAF.out HRL.out HV.out (Nat.le_trans HBS.out hw5) .returning).mono ?_
      rintro e u' w6 ⟨rfl, ⟨v, rfl⟩, hS6, hch6⟩
      have hlt5 := blk_lt hwb
      have hw6 := (hch6.block (w.heap.size + 1 + 1) hlt5 (hnF _ (by omega))).trans hwb
      rw [HPE.out]
      refine ⟨_, leave_cell rfl _ _ (w.heap.size + 1 + 1) 0 rfl ((blk_cell hw6 0).trans rfl), PutPost.yes ((Chg.of_below hb4).trans hch6 (fun q hq => .inl hq)) ?_⟩
      exact hS6.mono (fun q hq => ⟨hq.1.imp id (fun e => Nat.le_trans hw5 e), hq.2⟩) (fun q hq => ⟨hq.1.elim (fun e => (HLT.out q e).1) (fun e => Nat.le_trans HBS.out e), hq.2⟩)
end Go.Proofs.YtefeibndnghejaaGreatDoor.Pr
end
section
set_option linter.unusedVariables false
set_option linter.unusedSimpArgs false
namespace Go.Proofs.YtefeibndnghejaaGreatDoor.Pr
open Go.RowKit Go.Proofs.YtefeibndnghejaaGreatDoorW.PrintWords Go.Proofs.YtefeibndnghejaaGreatDoorW.PrintLast Go.Proofs.YtefeibndnghejaaGreatDoorW.PrintMore
def Rc.fin (x : Rc) : Int := if x.kd = 3 then x.tw else x.tm
def store_Cut_1.T1 : Bool × List (List Nat × List Nat) := (true, [([], []), ([0], [0]), ([], []), ([1, 2], [1, 2]), ([3, 1, 0, 1, 2, 3], [3])])
def store_Cut_1.B1 : List Nat := [0, 1, 0, 7, 15]
set_option maxRecDepth 100000 in
theorem store_Cut_1.tab1 : rtab .any (opsOf Tryz.f46 1) = store_Cut_1.T1 := by kernel_rfl
set_option maxRecDepth 100000 in
theorem store_Cut_1.bits1 : waitsOk store_Cut_1.T1.2 store_Cut_1.B1 = true := by kernel_rfl
theorem end_walk (x : Rc) (hx : x.ok) (v : Value) (w : World) : Calls Tryz.prog 47 #[.agg (x.cells v)] w fun e w' => e = .returned (.int .i64 x.fin) ∧ Below w.heap.size w w' := by
 obtain ⟨cs, hcs⟩ : ∃ cs, cs = x.cells v := ⟨_, rfl⟩
 have h0 : cs[0]? = some (.int .i64 x.kd) := by rw [hcs]; rfl
 have h3 : cs[3]? = some (.int .i64 x.tm) := by rw [hcs]; rfl
 have h4 : cs[4]? = some (.int .i64 x.tw) := by rw [hcs]; rfl
 rw [← hcs]
 clear hcs
 have c0 := (blk_cell (blk_new w (.cells cs 36)) 0).trans h0
 have c3 := (blk_cell (blk_new w (.cells cs 36)) 3).trans h3
 have c4 := (blk_cell (blk_new w (.cells cs 36)) 4).trans h4
 clear h0 h3 h4
 by_cases hk : x.kd = 3
 ·
  have b1 : (x.kd == 3) = true := by simp [hk]
  have hf : x.fin = x.tw := if_pos hk
  rw [hf]
  clear hf
  generalize x.kd = kd at *
  go_enter Tryz.func47, Tryz.ntmps47
  go_wp2
  go_ret
  exact ⟨rfl, below_alloc (Below.refl _ _) _⟩
 ·
  have b1 : (x.kd == 3) = false := by simp [hk]
  have hf : x.fin = x.tm := if_neg hk
  rw [hf]
  clear hf
  generalize x.kd = kd at *
  go_enter Tryz.func47, Tryz.ntmps47
  go_wp2
  go_ret
  exact ⟨rfl, below_alloc (Below.refl _ _) _⟩
set_option maxRecDepth 100000 in
set_option maxHeartbeats 4000000 in
theorem cut1_walk (x : Rc) (hx : x.ok) (v : Value) (tb : Nat) (t : Int) (w : World) (ht : w.cell? ⟨tb, 0, none⟩ = some (.int .i64 t)) :
  Calls Tryz.prog 46 #[.agg (x.cells v), .pointer (some ⟨tb, 0, none⟩)] w fun e w' => e = .returned (.bool (decide (x.fin < t))) ∧ Below w.heap.size w w' := by
 obtain ⟨cs, hcs⟩ : ∃ cs, cs = x.cells v := ⟨_, rfl⟩
 have hs : cs.size = 40 := by rw [hcs]; exact Rc.size hx v
 rw [← hcs]
 have HCS := Aside0.mk hcs
 have HX := Aside0.mk hx
 clear hcs hx
 obtain ⟨W1, hW1⟩ : ∃ W1, W1 = w.alloc (.cells cs 36) := ⟨_, rfl⟩
 have HBW := Aside0.mk (hW1 ▸ below_alloc (Below.refl _ _) _ : Below w.heap.size w W1)
 have HN := Aside0.mk (hW1 ▸ blk_new w _ : W1.heap[w.heap.size]? = some (.cells cs 36 (0, 0)))
 have HT := Aside0.mk ((HBW.out.cell (World.block_lt_of_cell? w _ ht)).trans ht)
 clear ht
 go_enter Tryz.func46, Tryz.ntmps46
 go_upto_region 1 with (fail)
 rw [← hW1]
 clear hW1
 refine start_ (n := 5) (S := fun w' => Below W1.heap.size W1 w') (ds := [4]) #[false, false, false, false, false] (by kernel_rfl) rfl rfl (below_drew1 (Below.refl _ _)) (fun hHeld => ?_)
 refine with_tabW store_Cut_1.tab1 store_Cut_1.bits1 (fun HT_ HW_ => ?_)
 generalize W1.drew = W0 at hHeld ⊢
 refine take_ (i := 0) (N := some 4) (v := ?_) (a' := ?_) #[true, false, false, false, false] rfl rfl (take_ofW HT_.out HW_.out (by kernel_rfl)) (fun _ _ _ h => h) (Or.inl ⟨by rfl, ?_⟩) hHeld ?_ ?_
 rotate_left
 ·
  rintro w' hw
  refine exec_load36 (x := .tmp 2) ?_ ?_ (blk_below HN.out hw) hs
  ·
   rfl
  ·
   rfl
 rotate_left
 ·
  simp only [Act.put, List.setIfInBounds_toArray, List.set_cons_zero, List.set_cons_succ, i64_w, i32_w]
  rfl
 refine take_ (i := 2) (N := some 6) (v := ?_) (a' := ?_) #[true, false, true, false, false] rfl rfl (take_ofW HT_.out HW_.out (by kernel_rfl)) (fun _ _ _ h => h) (Or.inl ⟨by rfl, ?_⟩) hHeld ?_ ?_
 rotate_left
 ·
  rintro w' hw
  have y := (hw.cell (World.block_lt_of_cell? W1 _ HT.out)).trans HT.out
  go_simp
  with_reducible rfl
 rotate_left
 ·
  simp only [Act.put, List.setIfInBounds_toArray, List.set_cons_zero, List.set_cons_succ, i64_w, i32_w]
  rfl
 refine one_ (i := 1) (N := some 5) #[true, true, true, false, false] rfl rfl (one_of HT_.out (by kernel_rfl)) (by decide) (fun K hK => ?_)
 refine goes_ Tryz.func47 (by kernel_rfl) rfl #[.agg cs] (by rfl) rfl rfl (by (try simp only [List.map_toArray, List.map_cons, List.map_nil]); first | done | rfl) ?_
 refine (HCS.out ▸ end_walk x HX.out v W0).mono ?_
 rintro e w2 ⟨rfl, hd⟩
 refine ⟨_, rfl, ?_⟩
 refine hK.out _ _ (below_step hHeld hd) (fun hHeld => ?_)
 clear hK K hd
 refine norm_ (a' := ?_) ?_ ?_
 rotate_left
 ·
  show Act.put _ (some 5) _ = _
  simp only [Act.put, List.setIfInBounds_toArray, List.set_cons_zero, List.set_cons_succ, i64_w, i32_w]
  rfl
 refine pure_ (i := 3) (N := some 7) (v := ?_) (a' := ?_) #[true, true, true, true, false] rfl rfl (any_of HT_.out (by kernel_rfl)) (fun _ _ _ h => h) (Or.inl ⟨by rfl, ?_⟩) ?_ ?_
 rotate_left
 ·
  intro w'
  go_simp
  with_reducible rfl
 rotate_left
 ·
  simp only [Act.put, List.setIfInBounds_toArray, List.set_cons_zero, List.set_cons_succ, i64_w, i32_w]
  rfl
 refine pure_ (i := 4) (N := some 3) (v := ?_) (a' := ?_) #[true, true, true, true, true] rfl rfl (any_of HT_.out (by kernel_rfl)) (fun _ _ _ h => h) (Or.inl ⟨by rfl, ?_⟩) ?_ ?_
 rotate_left
 ·
  intro w'
  go_simp
  with_reducible rfl
 rotate_left
 ·
  simp only [Act.put, List.setIfInBounds_toArray, List.set_cons_zero, List.set_cons_succ, i64_w, i32_w]
  rfl
 refine done_ (done_of HT_.out (by kernel_rfl)) ?_
 go_wp2
 go_ret
 exact ⟨rfl, below_step HBW.out hHeld⟩
def idxF (p : Rd → Bool) : List Rd → Nat
  | [] => 0
  | r :: l => if p r then 0 else idxF p l + 1
theorem idxF_le (p : Rd → Bool) : ∀ l : List Rd, idxF p l ≤ l.length
 | [] => Nat.le_refl _
 | r :: l => by
  unfold idxF
  split
  ·
   simp
  ·
   have := idxF_le p l; simp; omega
def idxI (p : Rd → Bool) (R : List Rd) : Int := if idxF p R < R.length then (idxF p R : Int) else -1
set_option maxRecDepth 100000 in
set_option maxHeartbeats 4000000 in
theorem idx_walk (gr : Nat) (c tb : Nat) (t : Int) (R : List Rd) (w : World) (hC : Kd.C kRc w (some ⟨gr, 0, none⟩) R.length R) (hc : R.length ≤ c) (ht : w.cell? ⟨tb, 0, none⟩ = some (.int .i64 t)) :
  Calls Tryz.prog 73 #[.slice (some ⟨gr, 0, none⟩) R.length c, .func (.func 46) #[] #[.pointer (some ⟨tb, 0, none⟩)]] w fun e w' =>
   e = .returned (.int .i64 (idxI (fun r => decide (r.x.fin < t)) R)) ∧ Below w.heap.size w w' := by
 have hu36 := Tryz.underlying36
 have HC := Aside0.mk hC
 have HT := Aside0.mk ht
 have hmx := Kd.C_max hC
 clear hC ht
 obtain ⟨p, hp⟩ : ∃ p : Rd → Bool, p = fun r => decide (r.x.fin < t) := ⟨_, rfl⟩
 rw [← hp]
 have HP := Aside0.mk hp
 clear hp
 go_enter Tryz.func73, Tryz.ntmps73
 go_wp2
 go_loopw [8] (fun v8 wr => ∃ k : Nat, k ≤ R.length ∧ v8 = .int .i64 k ∧ Aside0 (idxF p R = k + idxF p (R.drop k)) ∧ Aside0 (Below w.heap.size w wr)) (fun v8 _ => R.length - (intOf v8).toNat)
 case atStart => exact ⟨0, Nat.zero_le _, rfl, ⟨by simp⟩, ⟨Below.refl _ _⟩⟩
 case round =>
  obtain ⟨k, hk, rfl, HI, HB⟩ := hrel
  by_cases hlt : k < R.length
  ·
   obtain ⟨ad, B, cb, had, hok, hcell, hcb, hCa⟩ := rec_at HC.out k hlt
   injection had with had
   subst had
   have hbl : ((k : Nat) : Int) < (R.length : Int) := by omega
   have hrow : wr.rangeAt gr (k * 40) (R[k].x.cells (.slice B R[k].a.length cb)).toList := fun j u hu => by
    have h1 := hcell j u hu
    rw [Addr.add_mid, Nat.zero_add] at h1
    exact (HB.out.cell (World.block_lt_of_cell? w _ h1)).trans h1
   have hst : idxF p (R.drop k) = if p R[k] then 0 else idxF p (R.drop (k + 1)) + 1 := by rw [List.drop_eq_getElem_cons hlt, idxF]
   have hpk : p R[k] = decide (R[k].x.fin < t) := by rw [HP.out]
   obtain ⟨x, hx⟩ : ∃ x, x = R[k] := ⟨_, rfl⟩
   rw [← hx] at hok hrow hst hpk
   have hs := Rc.size hok (.slice B x.a.length cb)
   obtain ⟨cs, hcs⟩ : ∃ cs, cs = x.x.cells (.slice B x.a.length cb) := ⟨_, rfl⟩
   rw [← hcs] at hrow hs
   have HCS := Aside0.mk hcs
   have HROW := Aside0.mk hrow
   have HOK := Aside0.mk hok
   have HST := Aside0.mk hst
   have HPK := Aside0.mk hpk
   clear hcell hCa hcs hrow hok hx hst hpk
   have hw : wrap64 ((k : Int) + 1) = (k : Int) + 1 := by unfold wrap64; omega
   go_wp2_with (refine wpList_load_mid rfl 36 (.tmp 14) rfl gr (k * 40) rfl cs.toList _ HROW.out hu36 rfl (by rw [Array.length_toList, hs]; kernel_rfl) (Aside0.out ?_))
   refine ⟨?_⟩
   go_wp2_with (go_at_call 46; refine (HCS.out ▸ cut1_walk x.x HOK.out (.slice B x.a.length cb) tb t wr ((HB.out.cell (World.block_lt_of_cell? w _ HT.out)).trans HT.out)).mono ?_; rintro e w2 ⟨rfl, hb2⟩; have HB2 := Aside0.mk (below_step HB.out hb2); clear hb2; rw [← HPK.out]; generalize hpx : p x = px; have HPX := Aside0.mk hpx; clear hpx; cases px)
   ·
    go_wp2
    go_roundw
    case rel => exact ⟨k + 1, by omega, by simp [hw], ⟨by rw [HI.out, HST.out, HPX.out]; simp; omega⟩, HB2⟩
    case measure => simp [intOf, hw]; omega
   ·
    have hres : idxI p R = (k : Int) := by rw [idxI, HI.out, HST.out, HPX.out, if_pos rfl, Nat.add_zero, if_pos hlt]
    rw [hres]
    go_wp2
    go_ret
    exact ⟨rfl, HB2.out⟩
  ·
   obtain rfl : k = R.length := by omega
   have hres : idxI p R = -1 := by rw [idxI, if_neg (by rw [HI.out]; omega)]
   have HR := Aside0.mk hres
   clear hres
   have hz : ¬ (R.length : Int) < (R.length : Int) := by omega
   go_wp2
   go_ret
   exact ⟨by rw [HR.out]; rfl, HB.out⟩
end Go.Proofs.YtefeibndnghejaaGreatDoor.Pr
end
