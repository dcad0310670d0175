import Derived.Test.YtnfanpjfhdlddaaGreatDoorQPicks14
import Derived.Shelf.RegionOpen
import Derived.Test.YtnfanpjfhdlddaaGreatDoorQPicks12
section
set_option linter.unusedVariables false
set_option linter.unusedSimpArgs false
namespace Go.Proofs.YtnfanpjfhdlddaaGreatDoor.Pr
open Go.RowKit Go.Proofs.YtnfanpjfhdlddaaGreatDoorW.PrintWords Go.Proofs.YtnfanpjfhdlddaaGreatDoorW.PrintLast Go.Proofs.YtnfanpjfhdlddaaGreatDoorW.PrintMore
def attr_Quote.f (s : ByteArray) : Option ByteArray := if plainQ s = true then some ((⟨#[34]⟩ : ByteArray) ++ s ++ (⟨#[34]⟩ : ByteArray)) else none
set_option maxRecDepth 1000000 in
set_option maxHeartbeats 4000000 in
theorem attr_Quote.calls (s r : ByteArray) (w : World) (h : attr_Quote.f s = some r) :
  Calls Tryz.prog 59 #[.string s] w fun e w' => e = .returned (.string r) ∧ Below w.heap.size w w' := by
 unfold attr_Quote.f at h
 split at h
 ·
  rename_i hs
  cases h
  have hlt : s.size < 24 := by
   simp only [plainQ, Bool.and_eq_true, decide_eq_true_eq] at hs
   omega
  have hw : (w.alloc (.cells six.toArray 9)).heap[w.heap.size]? = some (.cells six.toArray 9 (0, 0)) := heap_alloc_new _ _
  have hn := new_replacer _ _ hw
  rw [← alloc_size] at hn
  have H := Aside0.mk hn
  have HA := Aside0.mk ((Below.refl w.heap.size w).alloc (Nat.le_refl _) (.cells six.toArray 9))
  have HS := Aside0.mk hs
  clear hw hs hn
  go_enter Tryz.func59, Tryz.ntmps59
  go_wp2_with (first | (go_at_call 80; refine H.out.mono ?_; rintro e w1 ⟨c, rfl, hb, hg, z, hz⟩; have HB := Aside0.mk hb; have HG := Aside0.mk hg; have HZ := Aside0.mk hz; clear hb hg hz))
  have q : ∀ i v, six[i]? = some v → w1.cell? ⟨w.heap.size + 1, i, none⟩ = some v := fun i v h => (blk_cell HZ.out i).trans (by
   rw [Array.getElem?_append_left (by simpa using (List.getElem?_eq_some_iff.1 h).1)]
   simpa using h)
  refine (replace_plain w (w.heap.size + 1 + 1) (w.heap.size + 1) c s w1 HG.out (q 0 _ rfl) (q 1 _ rfl) (q 2 _ rfl) (q 3 _ rfl) (q 4 _ rfl) (q 5 _ rfl) (by omega) (by omega) (HA.out.trans (HB.out.mono (by omega))) HS.out).mono ?_
  rintro e w2 ⟨rfl, hb2⟩
  have HB2 := Aside0.mk hb2
  clear hb2 q
  have z1 : (⟨#[34]⟩ : ByteArray).size = 1 := rfl
  have hsi : (s.size : Int) < 24 := by omega
  go_wp2_with fail
  go_ret
  exact ⟨rfl, HB2.out⟩
 ·
  cases h
end Go.Proofs.YtnfanpjfhdlddaaGreatDoor.Pr
end
section
set_option linter.unusedVariables false
set_option linter.unusedSimpArgs false
namespace Go.Proofs.YtnfanpjfhdlddaaGreatDoor.Pr
open Go.RowKit Go.Shelf Go.Proofs.YtnfanpjfhdlddaaGreatDoorW.PrintWords Go.Proofs.YtnfanpjfhdlddaaGreatDoorW.PrintLast Go.Proofs.YtnfanpjfhdlddaaGreatDoorW.PrintMore
attribute [local go_sem] Oper.semAt_some
def appendO (ts : Array TypeId) (ty : TypeId) (vs : Array Value) : Sem Value := Builtin.append_ ts ty vs
theorem appendO_eq (ts : Array TypeId) (ty : TypeId) (vs : Array Value) : Builtin.append_ ts ty vs = appendO ts ty vs := rfl
attribute [local go_sem ↓] appendO_eq
def item (x : S45) : ByteArray := x.f0 ++ (⟨#[61]⟩ : ByteArray) ++ ((⟨#[34]⟩ : ByteArray) ++ x.f1 ++ (⟨#[34]⟩ : ByteArray))
def joined (l : List S45) : List UInt8 := Lib.join (l.map fun x => (item x).data.toList) [44, 32]
def attr_Text.f (l : List S45) : Option ByteArray :=
  if l.length < 1099511627776 ∧ (l.all fun x => plainQ x.f1 && decide (x.f0.size < 1073741824)) = true ∧ (joined l).length < 140737488355320 then
    some ((⟨#[123]⟩ : ByteArray) ++ ⟨(joined l).toArray⟩ ++ (⟨#[125]⟩ : ByteArray)) else none
abbrev TA := { x : S45 // plainQ x.f1 = true ∧ x.f0.size < 1073741824 }
theorem sub_list : ∀ l : List S45, (∀ x ∈ l, plainQ x.f1 = true ∧ x.f0.size < 1073741824) → ∃ ys : List TA, ys.map Subtype.val = l
 | [], _ => ⟨[], rfl⟩
 | x :: l, h => by
  obtain ⟨ys, e⟩ := sub_list l (fun y hy => h y (List.mem_cons_of_mem _ hy))
  exact ⟨⟨x, h x (List.mem_cons_self ..)⟩ :: ys, by simp [e]⟩
theorem info9' : (Tryz.prog.info? 9).map (fun i => (i.zero, i.size, i.bytes)) = some (some (.string ⟨#[]⟩), 1, 16) := by kernel_rfl
theorem keeps_below {W W' : World} (h : Below W.heap.size W W') : KeepsOthers W W' := ⟨h.size, fun k o hk _ => (h.block k (Array.getElem?_eq_some_iff.1 hk).1).trans hk⟩
theorem boxed_below {W W' : World} {B : Nat} {t : TypeId} {v : Value} (h : Boxed W B t v) (hb : Below W.heap.size W W') : Boxed W' B t v := (hb.block B h.lt).trans h
theorem row_below {W W' : World} {n e size n0 : Nat} {v : Value} {xs : List Value} (h : W.ownsRow n0 e size v n xs) (hb : Below W.heap.size W W') : W'.ownsRow n0 e size v n xs := by
 obtain ⟨h1, h2⟩ := h
 refine ⟨h1, ?_⟩
 rcases h2 with h2 | ⟨g, cap, cur, a1, a2, a3, a4⟩
 ·
  exact .inl h2
 ·
  exact .inr ⟨g, cap, cur, a1, a2, (hb.block g (Array.getElem?_eq_some_iff.1 a3).1).trans a3, a4⟩
def TI (w : World) (pre : List TA) (W : World) : Prop :=
  (∃ v, Boxed W w.heap.size 34 v ∧ W.ownsRow w.heap.size 9 1 v pre.length (pre.map fun x => Value.string (item x.1)) ∧ True) ∧ Below w.heap.size w W
theorem body_facts {w W w1 : World} {pre : List TA} {x : TA} {v : Value} {it : ByteArray} (hit : it = item x.1) (hv : Boxed W w.heap.size 34 v) (hrow : W.ownsRow w.heap.size 9 1 v pre.length (pre.map fun x => Value.string (item x.1)))
  (hB : Below w.heap.size w W) (hl : pre.length < 1099511627776) (hb : Below W.drew.heap.size W.drew w1) :
  ∃ v' w2 g cap, (appendO #[34, 34] 34 #[v, .slice (some ⟨w1.heap.size, 0, none⟩) 1 1]).run Tryz.prog (w1.alloc (.cells #[.string it] 9)) = .ok v' w2 ∧ v' = .slice (some ⟨g, 0, none⟩) (pre.length + 1) cap ∧
   w.heap.size < w1.heap.size ∧ w1.cell? ⟨w.heap.size, 0, none⟩ = some v ∧ w2.cell? ⟨w.heap.size, 0, none⟩ = some v ∧ w2.frozen? ⟨w.heap.size, 0, none⟩ = false ∧
   KeepsOthers W (w2.setCell ⟨w.heap.size, 0, none⟩ v') ∧ Below w.heap.size W (w2.setCell ⟨w.heap.size, 0, none⟩ v') ∧ TI w (pre ++ [x]) (w2.setCell ⟨w.heap.size, 0, none⟩ v') := by
 subst hit
 obtain ⟨i0, hi, hz0, hz1, hz2⟩ := info_parts info9'
 have hb' : Below W.heap.size W w1 := ⟨hb.os, hb.tape, hb.output, hb.size, hb.block⟩
 have hv1 := boxed_below hv hb'
 have hr1 := row_below hrow hb'
 have hsz := hB.size
 obtain ⟨v', w2, hrun, hown, hgrow, hnil⟩ := run_append_own (P := Tryz.prog) (w := w1.alloc (.cells #[.string (item x.1)] 9)) w.heap.size 34 34 9 i0 (.string ⟨#[]⟩) 1 16 Tryz.underlying34 hi hz0 hz1 hz2 rfl (by decide) v pre.length _ (hr1.alloc _) ⟨w1.heap.size, 0, none⟩ 1 1 [.string (item x.1)] rfl (cell_one_new _ _ _) (by simp [Value.oneCell']) (by simp only [maxLen]; omega) (by omega) (by have := hb'.size; simp; omega)
 obtain ⟨g', cap', e⟩ := ownsRow_succ hown
 obtain ⟨a1, a2, a3, a4, a5⟩ := hv1.appended (by decide) hr1 (Nat.le_trans hsz hb'.size) (Nat.le_refl _) hown hgrow
 exact ⟨v', w2, g', cap', hrun, e, hv1.lt, hv1.cell, a1.cell, a1.frozen, (keeps_below hb').trans a4, (hb'.mono hsz).trans a5, ⟨_, a2, by simpa using a3, trivial⟩, hB.trans ((hb'.mono hsz).trans a5)⟩
theorem wpOpIn_inRound {F : Fence} {n : Nat} {P : Program} {ops : Array Oper} {Q : Exit → Act → World → Prop} (l : Nat) (hd : ∀ (i : Nat) (o : Oper), ops[i]? = some o → ∀ c, o.op ≠ Op.defer c) (i : Nat) (K : Act → World → Prop) (a : Act) (w : World) :
  wpOpIn (F.inRound l) n P ops Q i K a w = wpOpIn F n P ops Q i K a w := by
 unfold wpOpIn
 cases h : ops[i]? with
 | none => rfl
 | some o =>
  dsimp only
  unfold Oper.wpIn
  rw [Oper.semAt_eq _ _ _ (hd i o h), Oper.semAt_eq _ _ _ (hd i o h)]
  rfl
theorem wpAnyIn_inRound {F : Fence} {n : Nat} {P : Program} {md : Region.Mode} {ops : Array Oper} {Q : Exit → Act → World → Prop} (l : Nat) (hd : ∀ (i : Nat) (o : Oper), ops[i]? = some o → ∀ c, o.op ≠ Op.defer c) :
  ∀ fuel listed a w, wpAnyIn (F.inRound l) n P md ops Q fuel listed a w = wpAnyIn F n P md ops Q fuel listed a w
 | 0, listed, a, w => rfl
 | fuel + 1, listed, a, w => by
  have ih : ∀ listed, wpAnyIn (F.inRound l) n P md ops Q fuel listed = wpAnyIn F n P md ops Q fuel listed := fun listed => by
   funext a w; exact wpAnyIn_inRound l hd fuel listed a w
  unfold wpAnyIn
  simp only [wpOpIn_inRound l hd, ih]
def noDefer (ops : Array Oper) : Bool := ops.all fun o => match o.op with | .defer _ => false | _ => true
theorem noDefer_spec {ops : Array Oper} (h : noDefer ops = true) (i : Nat) (o : Oper) (hi : ops[i]? = some o) (c) : o.op ≠ Op.defer c := by
 intro e
 obtain ⟨hlt, he⟩ := Array.getElem?_eq_some_iff.1 hi
 have := Array.all_eq_true.1 h i hlt
 rw [he, e] at this
 cases this
theorem join_any (w W : World) (ys : List TA) (l0 : List S45) (hys : ys.map Subtype.val = l0) (v : Value) (hrow : W.ownsRow w.heap.size 9 1 v ys.length (ys.map fun x => Value.string (item x.1))) (h1 : ys.length < 1099511627776) (h2 : (joined l0).length < 140737488355320) :
  Calls Tryz.prog 60 #[v, .string ⟨#[44, 32]⟩] W fun e w' => e = .returned (.string ⟨(joined l0).toArray⟩) ∧ Below W.heap.size W w' := by
 have hj : joined l0 = Lib.join ((ys.map fun x => item x.1).map (·.data.toList)) (⟨#[44, 32]⟩ : ByteArray).data.toList := by
  subst hys
  simp [joined, List.map_map]
  rfl
 obtain ⟨hl, hr⟩ := hrow
 rcases hr with ⟨rfl, h0⟩ | ⟨g, cap, cur, rfl, hg, hb, hc, hm, hs, ht⟩
 ·
  have : ys = [] := List.eq_nil_of_length_eq_zero h0
  subst this
  subst hys
  refine (Tryz.strings_Join_none none 0 _ W).mono ?_
  rintro e w' ⟨rfl, rfl⟩
  exact ⟨rfl, Below.refl _ _⟩
 ·
  have hlen : (ys.map fun x => item x.1).length = ys.length := List.length_map ..
  have hJ := Tryz.strings_Join g 0 cap (ys.map fun x => item x.1) ⟨#[44, 32]⟩ W (fun j x hx => by
   have hjl : j < ys.length := by simpa using (List.getElem?_eq_some_iff.1 hx).1
   rw [blk_cell hb, Nat.zero_add]
   have := congrArg (fun l => l[j]?) ht
   simp only [Nat.mul_one, List.getElem?_take, if_pos hjl, List.getElem?_map] at this
   rw [← Array.getElem?_toList, this]
   simp only [List.getElem?_map] at hx
   cases hy : ys[j]? with
   | none => simp [hy] at hx
   | some y => simp [hy] at hx ⊢; exact hx) (Array.getElem?_eq_some_iff.1 hb).1 (by rw [hlen]; omega) (by rw [hlen]; exact hc) (by rw [← hj]; omega)
  rw [hlen, ← hj] at hJ
  exact hJ
set_option maxRecDepth 1000000 in
set_option maxHeartbeats 4000000 in
theorem attr_Text.calls (A0 : Option Addr) (c0 : Nat) (l0 : List S45) (r : ByteArray) (w : World) (hr0 : Kd.C k45 w A0 l0.length l0) (hc0 : l0.length ≤ c0) (h : attr_Text.f l0 = some r) :
  Calls Tryz.prog 40 #[.slice A0 l0.length c0] w fun e w' => e = .returned (.string r) ∧ Below w.heap.size w w' := by
 unfold attr_Text.f at h
 split at h
 case isFalse => cases h
 rename_i hc
 obtain ⟨hc1, hc2, hc3⟩ := hc
 cases h
 obtain ⟨ys, hys⟩ := sub_list l0 (fun x hx => by simpa using List.all_eq_true.1 hc2 x hx)
 have HC1 := Aside0.mk hc1
 have HC3 := Aside0.mk hc3
 have HL : ys.length = l0.length := by rw [← hys, List.length_map]
 have HYS := Aside0.mk hys
 have HLY := Aside0.mk HL
 have HRW := Aside0.mk hr0
 clear hc1 hc2 hc3 hys HL hr0
 refine (callsIn_wide (n := 5)).1 ?_
 refine callsIn_of_wp_marks Tryz.func40 rfl trivial ?_ rfl
 simp only [Tryz.ntmps40, List.size_toArray, List.length_cons, List.length_nil, Nat.reduceAdd, Nat.reduceSub, Array.replicate_succ, Array.replicate_zero, List.push_toArray, List.append_toArray, List.nil_append, List.cons_append]
 gi_wp2_with (refine ⟨trivial, ?_⟩; gi_at_call 27; refine (each_in Fence.wide _ trivial rfl _ _ _ _).mono ?_; rintro e w' ⟨rfl, rfl⟩)
 have bO := Boxed.new w 34 (.slice none 0 0)
 have bN := Boxed.new (w.alloc (.cells #[.slice none 0 0] 34)) 22 (.slice A0 l0.length c0)
 rw [World.size_alloc] at bN
 have hB0 : Below w.heap.size w ((w.alloc (.cells #[.slice none 0 0] 34)).alloc (.cells #[.slice A0 l0.length c0] 22)) := ((Below.refl _ w).alloc (Nat.le_refl _) _).alloc (by simp) _
 refine wpIn_rangeFunc_ownG (F := Fence.wide) rfl (by omega) (gf := 44) (lb := #[.pointer (some ⟨w.heap.size + 1, 0, none⟩)]) rfl trivial (enters_of Tryz.func44 (by kernel_rfl) rfl)
  (each_stops Subtype.val ys Fence.wide _ trivial rfl (by omega) (w.heap.size + 1) c0 A0 l0 HYS.out w _ HRW.out hc0 hB0 bN.cell) belowK_t (belowK_b (by simp; omega)) (Below.refl _ _) (fun _ => rfl)
  (TI w)
  (fun _ _ _ => False)
  (OwnFrom.and (Own.from (holdsRow_own w.heap.size w.heap.size 34 9 1 (fun pre : List TA => pre.length) (fun pre => pre.map fun x => Value.string (item x.1)) (fun _ _ => True)) _) (ownFrom_below (Nat.le_refl _) (by simp; omega)))
  (fun _ _ _ _ _ hs _ _ => hs)
  ⟨⟨_, bO.alloc _, World.ownsRow_nil _ _ _ _, trivial⟩, hB0⟩
  (fun x => { tmps := #[.slice A0 l0.length c0, undef, .string ⟨#[]⟩, .pointer (some ⟨w.heap.size, 0, none⟩), .string x.1.f0, .string x.1.f1, .slice A0 l0.length c0, .func (.func 44) #[] #[.pointer (some ⟨w.heap.size + 1, 0, none⟩)], .string x.1.f0, .string x.1.f1, undef, undef, undef, undef, undef, undef, undef, undef, undef, undef, undef, undef], defers := [] }) ?assign ?body ?done ?stop
 case assign =>
  intro l x W K hK
  gi_wp2
  exact hK
 case stop =>
  rintro D c pre W _ _ h _
  exact h.elim
 case body =>
  rintro l pre x W ⟨⟨v, hv, hrow, -⟩, hB⟩ hlt
  have hmx : Tryz.prog.follows .mixedOrders = true := by kernel_rfl
  have hx1 := x.2.1
  have hx2 := x.2.2
  obtain ⟨q, hqe⟩ : ∃ q, q = (⟨#[34]⟩ : ByteArray) ++ x.1.f1 ++ (⟨#[34]⟩ : ByteArray) := ⟨_, rfl⟩
  have hq : attr_Quote.f x.1.f1 = some q := by rw [attr_Quote.f, if_pos hx1, hqe]
  have hit : x.1.f0 ++ (⟨#[61]⟩ : ByteArray) ++ q = item x.1 := by rw [hqe]; rfl
  have hsq : q.size < 28 := by
   have : x.1.f1.size < 24 := by
    simp only [plainQ, Bool.and_eq_true, decide_eq_true_eq] at hx1
    omega
   rw [hqe, ByteArray.size_append, ByteArray.size_append]
   show 1 + _ + 1 < 28
   omega
  have hn1 : ¬ (9223372036854775807 < x.1.f0.size + 1) := by omega
  have hn2 : ¬ (9223372036854775807 < x.1.f0.size + 1 + q.size) := by omega
  have hz61 : (⟨#[61]⟩ : ByteArray).size = 1 := rfl
  have hpl : pre.length < 1099511627776 := by have := HC1.out; omega
  have HV := Aside0.mk hv
  have HR := Aside0.mk hrow
  have HB := Aside0.mk hB
  have HI := Aside0.mk hit
  have HP := Aside0.mk hpl
  have HQ := Aside0.mk (attr_Quote.calls x.1.f1 q W.drew hq)
  have hc := hv.cell
  clear hv hrow hB hq hqe hit hx1 hx2 hsq hpl hlt
  gi_wp2
  refine wpIn_region_any (by assumption) ?_
  rw [wpAnyIn_inRound l (noDefer_spec (by kernel_rfl))]
  change wpAnyIn _ _ _ _ _ _ _ _ _ (World.drew _)
  refine wpAnyIn_take (i := 1) (v := ?_) rfl rfl (by kernel_rfl) (by kernel_rfl) (by kernel_rfl) (fun _ _ _ h => h) ⟨Or.inl ⟨by rfl, ?_⟩, fun _ => rfl⟩ ?_
  case refine_2 => intro w; go_simp; with_reducible rfl
  refine wpAnyIn_take (i := 2) (v := ?_) rfl rfl (by kernel_rfl) (by kernel_rfl) (by kernel_rfl) (fun _ _ _ h => h) ⟨Or.inl ⟨by rfl, ?_⟩, fun _ => rfl⟩ ?_
  case refine_2 => intro w; go_simp; with_reducible rfl
  refine wpAnyIn_take (i := 3) (v := ?_) rfl rfl (by kernel_rfl) (by kernel_rfl) (by kernel_rfl) (fun _ _ _ h => h) ⟨Or.inl ⟨by rfl, ?_⟩, fun _ => rfl⟩ ?_
  case refine_2 => intro w; go_simp; with_reducible rfl
  refine wpAnyIn_ready (rs := [0, 4]) (by kernel_rfl) (by simp) ?_
  refine AllReadyIn.cons rfl (fun K hK => ?_) (AllReadyIn.cons rfl (fun K hK => ?_) AllReadyIn.nil)
  ·
   go_simp
   refine hK _ _ ?_
   clear hK K
   refine wpAnyIn_ready (rs := [4]) (by kernel_rfl) (by simp) ?_
   refine AllReadyIn.cons rfl (fun K hK => ?_) AllReadyIn.nil
   go_simp
   gi_wp2_with (refine ⟨trivial, ?_⟩; gi_at_call 59; refine (callsIn_wide.2 HQ.out).mono ?_; rintro e w1 ⟨rfl, hb⟩; obtain ⟨v', w2, g, cap, hrun, rfl, lt1, c1, c2, f2, k1, k2, k3⟩ := body_facts (x := x) HI.out HV.out HR.out HB.out HP.out hb; have K1 := Aside0.mk k1; have K2 := Aside0.mk k2; have K3 := Aside0.mk k3; clear k1 k2 k3 hb)
   refine wpAnyIn_take (i := 5) (v := ?_) rfl rfl (by kernel_rfl) (by kernel_rfl) (by kernel_rfl) (fun _ _ _ h => h) ⟨Or.inl ⟨by rfl, ?_⟩, fun _ => rfl⟩ ?_
   case refine_2 => intro w; go_simp; with_reducible rfl
   refine wpAnyIn_ready (rs := [6]) (by kernel_rfl) (by simp) ?_
   refine AllReadyIn.cons rfl (fun K hK => ?_) AllReadyIn.nil
   go_simp
   refine hK _ _ ?_
   clear hK K
   refine wpAnyIn_ready (rs := [7]) (by kernel_rfl) (by simp) ?_
   refine AllReadyIn.cons rfl (fun K hK => ?_) AllReadyIn.nil
   go_simp
   refine hK _ _ ?_
   clear hK K
   refine wpAnyIn_ready (rs := [8]) (by kernel_rfl) (by simp) ?_
   refine AllReadyIn.cons rfl (fun K hK => ?_) AllReadyIn.nil
   go_simp
   refine hK _ _ ?_
   clear hK K
   refine wpAnyIn_done (by kernel_rfl) ?_ _
   exact ⟨K1.out.from _, K2.out, K3.out⟩
  ·
   go_simp
   gi_wp2_with (refine ⟨trivial, ?_⟩; gi_at_call 59; refine (callsIn_wide.2 HQ.out).mono ?_; rintro e w1 ⟨rfl, hb⟩; obtain ⟨v', w2, g, cap, hrun, rfl, lt1, c1, c2, f2, k1, k2, k3⟩ := body_facts (x := x) HI.out HV.out HR.out HB.out HP.out hb; have K1 := Aside0.mk k1; have K2 := Aside0.mk k2; have K3 := Aside0.mk k3; clear k1 k2 k3 hb)
   refine wpAnyIn_take (i := 5) (v := ?_) rfl rfl (by kernel_rfl) (by kernel_rfl) (by kernel_rfl) (fun _ _ _ h => h) ⟨Or.inl ⟨by rfl, ?_⟩, fun _ => rfl⟩ ?_
   case refine_2 => intro w; go_simp; with_reducible rfl
   refine wpAnyIn_ready (rs := [0, 6]) (by kernel_rfl) (by simp) ?_
   refine AllReadyIn.cons rfl (fun K hK => ?_) (AllReadyIn.cons rfl (fun K hK => ?_) AllReadyIn.nil)
   ·
    go_simp
    refine hK _ _ ?_
    clear hK K
    refine wpAnyIn_ready (rs := [6]) (by kernel_rfl) (by simp) ?_
    refine AllReadyIn.cons rfl (fun K hK => ?_) AllReadyIn.nil
    go_simp
    refine hK _ _ ?_
    clear hK K
    refine wpAnyIn_ready (rs := [7]) (by kernel_rfl) (by simp) ?_
    refine AllReadyIn.cons rfl (fun K hK => ?_) AllReadyIn.nil
    go_simp
    refine hK _ _ ?_
    clear hK K
    refine wpAnyIn_ready (rs := [8]) (by kernel_rfl) (by simp) ?_
    refine AllReadyIn.cons rfl (fun K hK => ?_) AllReadyIn.nil
    go_simp
    refine hK _ _ ?_
    clear hK K
    refine wpAnyIn_done (by kernel_rfl) ?_ _
    exact ⟨K1.out.from _, K2.out, K3.out⟩
   ·
    go_simp
    refine hK _ _ ?_
    clear hK K
    refine wpAnyIn_ready (rs := [0]) (by kernel_rfl) (by simp) ?_
    refine AllReadyIn.cons rfl (fun K hK => ?_) AllReadyIn.nil
    go_simp
    refine hK _ _ ?_
    clear hK K
    refine wpAnyIn_ready (rs := [7]) (by kernel_rfl) (by simp) ?_
    refine AllReadyIn.cons rfl (fun K hK => ?_) AllReadyIn.nil
    go_simp
    refine hK _ _ ?_
    clear hK K
    refine wpAnyIn_ready (rs := [8]) (by kernel_rfl) (by simp) ?_
    refine AllReadyIn.cons rfl (fun K hK => ?_) AllReadyIn.nil
    go_simp
    refine hK _ _ ?_
    clear hK K
    refine wpAnyIn_done (by kernel_rfl) ?_ _
    exact ⟨K1.out.from _, K2.out, K3.out⟩
 case done =>
  rintro D zs W hD rfl ⟨⟨v, hv, hrow, -⟩, hB⟩ hK
  have hc := hv.cell
  have HJ := Aside0.mk (join_any w W zs l0 HYS.out v hrow (by have := HC1.out; have := HLY.out; omega) HC3.out)
  have HB := Aside0.mk hB
  have HK := Aside0.mk hK
  have hj : ((⟨(joined l0).toArray⟩ : ByteArray)).size < 140737488355320 := by
   have := HC3.out
   show (joined l0).toArray.size < _
   simpa using this
  obtain ⟨js, hjs⟩ : ∃ js : ByteArray, js = ⟨(joined l0).toArray⟩ := ⟨_, rfl⟩
  rw [← hjs] at hj HJ
  have HS := Aside0.mk hjs
  have hz1 : (⟨#[123]⟩ : ByteArray).size = 1 := rfl
  have hz2 : (⟨#[125]⟩ : ByteArray).size = 1 := rfl
  have hn1 : ¬ (9223372036854775807 < 1 + js.size) := by omega
  have hn2 : ¬ (9223372036854775807 < 1 + js.size + 1) := by omega
  clear hrow hB hv hjs hj
  gi_wp2_with (refine ⟨trivial, ?_⟩; gi_at_call 60; refine (callsIn_wide.2 HJ.out).mono ?_; rintro e w1 ⟨rfl, hb⟩; have HB1 := Aside0.mk hb; clear hb)
  refine ⟨by simp, .inl ⟨_, _, rfl, run_takeDeferred ((HB1.out.block D (Array.getElem?_eq_some_iff.1 HK.out).1).trans HK.out), ?_⟩⟩
  refine ⟨_, results_tmp rfl _ _ _, by rw [← HS.out]; rfl, ?_⟩
  exact (HB.out.trans (HB1.out.mono HB.out.size)).trans (belowK_b (w := w) (Nat.le_refl _) w1 D _ _ (by simp at hD; omega) ((HB1.out.block D (Array.getElem?_eq_some_iff.1 HK.out).1).trans HK.out) rfl rfl)
end Go.Proofs.YtnfanpjfhdlddaaGreatDoor.Pr
end
