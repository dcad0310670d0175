import Derived.Test.YtefeibndnghejaaGreatDoorJn8
import Derived.Shelf.RegionOpen
import Derived.Test.YtefeibndnghejaaGreatDoorJn6
import Derived.Test.YtefeibndnghejaaGreatDoorJn7
import Derived.Test.YtefeibndnghejaaGreatDoorJn5
section
set_option linter.unusedVariables false
set_option linter.unusedSimpArgs false
namespace Go.Proofs.YtefeibndnghejaaGreatDoor.Pr
open Go.RowKit Go.Proofs.YtefeibndnghejaaGreatDoorW.PrintWords Go.Proofs.YtefeibndnghejaaGreatDoorW.PrintLast Go.Proofs.YtefeibndnghejaaGreatDoorW.PrintMore
set_option maxRecDepth 1000000 in
set_option maxHeartbeats 4000000 in
theorem replace_plain (w0 : World) (g q c : Nat) (s : ByteArray) (w : World) (hg : w.heap[g]? = some (.cells #[.int .u32 0, .int .i32 0, .int .u32 0, Value.nilIface, .slice (some ⟨q, 0, none⟩) 6 c] 169 (0, 0)))
  (q0 : w.cell? ⟨q, 0, none⟩ = some (.string ⟨#[34]⟩)) (q1 : w.cell? ⟨q, 1, none⟩ = some (.string ⟨#[92, 34]⟩))
  (q2 : w.cell? ⟨q, 2, none⟩ = some (.string ⟨#[92]⟩)) (q3 : w.cell? ⟨q, 3, none⟩ = some (.string ⟨#[92, 92]⟩))
  (q4 : w.cell? ⟨q, 4, none⟩ = some (.string ⟨#[10]⟩)) (q5 : w.cell? ⟨q, 5, none⟩ = some (.string ⟨#[92, 110]⟩)) (hqg : q ≠ g) (hn : w0.heap.size ≤ g) (hb : Below w0.heap.size w0 w) (hs : s.size < 140737488355312) :
  Calls Tryz.prog 104 #[.pointer (some ⟨g, 0, none⟩), .string s] w fun e w' => e = .returned (.string ⟨(escL s.data.toList).toArray⟩) ∧ Below w0.heap.size w0 w' := by
 have H := Aside0.mk (do_first w0 g q c w hg q0 q1 q2 q3 q4 q5 hqg hn hb)
 have hmf : ∀ (fn : Fn) (first cap : Array Value) (w : World), (Instr.makeFunc fn first cap).run Tryz.prog w = .ok (.func fn first cap) w := fun _ _ _ _ => rfl
 have hm : ∀ (b off : Nat) (W : World), (method 391 229 (.pointer (some ⟨b, off, none⟩)) "Replace").run Tryz.prog W = .ok (232, .pointer (some ⟨b, off, none⟩)) W := fun _ _ _ => by kernel_rfl
 clear hg q0 q1 q2 q3 q4 q5 hqg hb
 go_enter Tryz.func104, Tryz.ntmps104
 go_wp2_with (first | (go_at_call 121; refine H.out.mono ?_; rintro e w1 ⟨rfl, B1, R1⟩; have c3 := blk_cell B1 3; simp at c3; have HR := Aside0.mk R1; clear B1 R1) | (go_at_call 232; refine (bsr_any _ s _ HR.out.2 hs).mono ?_; rintro e w2 ⟨rfl, hb2⟩; have HB2 := Aside0.mk hb2; clear hb2))
 go_ret
 exact ⟨rfl, HR.out.1.trans (HB2.out.mono HR.out.1.size)⟩
def six : List Value := [.string ⟨#[34]⟩, .string ⟨#[92, 34]⟩, .string ⟨#[92]⟩, .string ⟨#[92, 92]⟩, .string ⟨#[10]⟩, .string ⟨#[92, 110]⟩]
theorem app6 {W : World} {b : Nat} (h : W.heap[b]? = some (.cells six.toArray 9 (0, 0))) :
  ∃ z, ∀ ty, (Builtin.append_ #[55, 55] ty #[.slice none 0 0, .slice (some ⟨b, 0, none⟩) 6 6]).run Tryz.prog W = .ok (.slice (some ⟨W.heap.size, 0, none⟩) 6 (grownCap W 6 0 9)) (W.drew.alloc (.cells (six.toArray ++ z) 9)) := by
 have hi : (Tryz.prog.info? 9).map (fun i => (i.zero, i.size, i.bytes)) = some (some (.string ⟨#[]⟩), 1, 16) := by kernel_rfl
 cases h' : Tryz.prog.info? 9 with
 | none => simp [h'] at hi
 | some i =>
  simp [h'] at hi
  exact ⟨_, fun ty => run_append_nil (P := Tryz.prog) (w := W) 55 ty 9 i (.string ⟨#[]⟩) Tryz.underlying55 h' hi.1 ⟨b, 0, none⟩ 6 6 six (by rw [hi.2.1]; rfl) (fun j v hj => by
   have : (⟨b, 0, none⟩ : Addr).add j = ⟨b, j, none⟩ := by unfold Addr.add; split <;> simp_all
   rw [this, blk_cell h]
   simpa using hj) (by omega) (by omega) (by rw [hi.2.2]; omega)⟩
def NRΦ (w : World) (z : Array Value) (w2 : World) : Prop := w2.heap.size = w.heap.size + 1 ∧ Below w.heap.size w w2 ∧ w2.heap[w.heap.size]? = some (.cells (six.toArray ++ z) 9 (0, 0))
set_option maxRecDepth 1000000 in
set_option maxHeartbeats 4000000 in
theorem new_replacer (b : Nat) (w : World) (hb : w.heap[b]? = some (.cells six.toArray 9 (0, 0))) :
  Calls Tryz.prog 103 #[.slice (some ⟨b, 0, none⟩) 6 6] w fun e w' => ∃ c, e = .returned (.pointer (some ⟨w.heap.size + 1, 0, none⟩)) ∧ Below w.heap.size w w' ∧
   w'.heap[w.heap.size + 1]? = some (.cells #[.int .u32 0, .int .i32 0, .int .u32 0, Value.nilIface, .slice (some ⟨w.heap.size, 0, none⟩) 6 c] 169 (0, 0)) ∧
   ∃ z, w'.heap[w.heap.size]? = some (.cells (six.toArray ++ z) 9 (0, 0)) := by
 have hlt : b < w.heap.size := (Array.getElem?_eq_some_iff.1 hb).1
 obtain ⟨z, hz⟩ := app6 hb
 have HZ := Aside0.mk hz
 have hp : w.heap.size < (w.drew.alloc (.cells (six.toArray ++ z) 9)).heap.size := by rw [← alloc_size]; exact Nat.lt_succ_self _
 have HP := Aside0.mk (show NRΦ w z (w.drew.alloc (.cells (six.toArray ++ z) 9)) from
  ⟨(alloc_size _ _).symm, (Below.refl _ _).drew.alloc (Nat.le_refl _) _, heap_alloc_new w.drew _⟩)
 clear hb hz hp
 go_enter Tryz.func103, Tryz.ntmps103
 go_wp2_with (at_builtin; go_loud (refine wpList_append_run rfl (.const (.slice none 0 0)) (.tmp 8) 55 rfl _ _ rfl rfl _ _ HZ.out (NRΦ w z) HP.out ?_; intro w2 B2; apply StopAt.out))
 apply StopAt.mk
 obtain ⟨hs, hb, hh⟩ := B2
 have HS := Aside0.mk hs
 have HB := Aside0.mk hb
 have HH := Aside0.mk hh
 clear hs hb hh
 go_wp2_with fail
 go_ret
 have e1 := HS.out
 refine ⟨grownCap w 6 0 9, ?_, HB.out.alloc (by omega) _, ?_, z, (Below.heap_alloc _ _ _ (by omega)).trans HH.out⟩
 ·
  rw [← e1]; rfl
 ·
  rw [← e1]
  exact heap_alloc_new _ _
end Go.Proofs.YtefeibndnghejaaGreatDoor.Pr
end
section
set_option linter.unusedVariables false
set_option linter.unusedSimpArgs false
namespace Go.Proofs.YtefeibndnghejaaGreatDoor.Pr
open Go.RowKit Go.Proofs.YtefeibndnghejaaGreatDoorW.PrintWords Go.Proofs.YtefeibndnghejaaGreatDoorW.PrintLast Go.Proofs.YtefeibndnghejaaGreatDoorW.PrintMore
def attr_Quote.f (s : ByteArray) : Option ByteArray := if s.size < 140737488355312 then some ((⟨#[34]⟩ : ByteArray) ++ (⟨(escL s.data.toList).toArray⟩ : ByteArray) ++ (⟨#[34]⟩ : ByteArray)) else none
set_option maxRecDepth 1000000 in
set_option maxHeartbeats 4000000 in
theorem attr_Quote.calls (s r : ByteArray) (w : World) (h : attr_Quote.f s = some r) :
  Calls Tryz.prog 84 #[.string s] w fun e w' => e = .returned (.string r) ∧ Below w.heap.size w w' := by
 unfold attr_Quote.f at h
 split at h
 ·
  rename_i hs
  cases h
  have hE : (⟨(escL s.data.toList).toArray⟩ : ByteArray).size ≤ 281474976710630 := by
   show (escL s.data.toList).toArray.size ≤ _
   rw [List.size_toArray, escL_len]
   have h2 : specN s.data.toList ≤ s.data.toList.length := List.countP_le_length
   have h3 : s.data.toList.length = s.size := Array.length_toList
   omega
  have HE := Aside0.mk hE
  clear hE
  have hw : (w.alloc (.cells six.toArray 9)).heap[w.heap.size]? = some (.cells six.toArray 9 (0, 0)) := heap_alloc_new _ _
  have hn := new_replacer _ _ hw
  rw [← alloc_size] at hn
  have H := Aside0.mk hn
  have HA := Aside0.mk ((Below.refl w.heap.size w).alloc (Nat.le_refl _) (.cells six.toArray 9))
  have HS := Aside0.mk hs
  clear hw hs hn
  go_enter Tryz.func84, Tryz.ntmps84
  go_wp2_with (first | (go_at_call 103; refine H.out.mono ?_; rintro e w1 ⟨c, rfl, hb, hg, z, hz⟩; have HB := Aside0.mk hb; have HG := Aside0.mk hg; have HZ := Aside0.mk hz; clear hb hg hz))
  have q : ∀ i v, six[i]? = some v → w1.cell? ⟨w.heap.size + 1, i, none⟩ = some v := fun i v h => (blk_cell HZ.out i).trans (by
   rw [Array.getElem?_append_left (by simpa using (List.getElem?_eq_some_iff.1 h).1)]
   simpa using h)
  refine (replace_plain w (w.heap.size + 1 + 1) (w.heap.size + 1) c s w1 HG.out (q 0 _ rfl) (q 1 _ rfl) (q 2 _ rfl) (q 3 _ rfl) (q 4 _ rfl) (q 5 _ rfl) (by omega) (by omega) (HA.out.trans (HB.out.mono (by omega))) HS.out).mono ?_
  rintro e w2 ⟨rfl, hb2⟩
  have HB2 := Aside0.mk hb2
  clear hb2 q
  have z1 : (⟨#[34]⟩ : ByteArray).size = 1 := rfl
  have hE2 := HE.out
  generalize hq : (⟨(escL s.data.toList).toArray⟩ : ByteArray) = q at *
  have HQ := Aside0.mk hq
  clear hq
  have hsi : (q.size : Int) ≤ 281474976710630 := by omega
  go_wp2_with fail
  go_ret
  exact ⟨by rw [HQ.out]; rfl, HB2.out⟩
 ·
  cases h
end Go.Proofs.YtefeibndnghejaaGreatDoor.Pr
end
section
set_option linter.unusedVariables false
set_option linter.unusedSimpArgs false
namespace Go.Proofs.YtefeibndnghejaaGreatDoor.Pr
open Go.RowKit Go.Shelf Go.Proofs.YtefeibndnghejaaGreatDoorW.PrintWords Go.Proofs.YtefeibndnghejaaGreatDoorW.PrintLast Go.Proofs.YtefeibndnghejaaGreatDoorW.PrintMore
attribute [local go_sem] Oper.semAt_some
def appendO (ts : Array TypeId) (ty : TypeId) (vs : Array Value) : Sem Value := Builtin.append_ ts ty vs
theorem appendO_eq (ts : Array TypeId) (ty : TypeId) (vs : Array Value) : Builtin.append_ ts ty vs = appendO ts ty vs := rfl
attribute [local go_sem ↓] appendO_eq
def item (x : S85) : ByteArray := x.f0 ++ (⟨#[61]⟩ : ByteArray) ++ ((⟨#[34]⟩ : ByteArray) ++ (⟨(escL x.f1.data.toList).toArray⟩ : ByteArray) ++ (⟨#[34]⟩ : ByteArray))
def joined (l : List S85) : List UInt8 := Lib.join (l.map fun x => (item x).data.toList) [44, 32]
def attr_Text.f (l : List S85) : Option ByteArray :=
  if l.length < 1099511627776 ∧ (l.all fun x => decide (x.f1.size < 1073741824) && decide (x.f0.size < 1073741824)) = true ∧ (joined l).length < 140737488355320 then
    some ((⟨#[123]⟩ : ByteArray) ++ ⟨(joined l).toArray⟩ ++ (⟨#[125]⟩ : ByteArray)) else none
abbrev TA := { x : S85 // x.f1.size < 1073741824 ∧ x.f0.size < 1073741824 }
theorem sub_list : ∀ l : List S85, (∀ x ∈ l, x.f1.size < 1073741824 ∧ x.f0.size < 1073741824) → ∃ ys : List TA, ys.map Subtype.val = l
 | [], _ => ⟨[], rfl⟩
 | x :: l, h => by
  obtain ⟨ys, e⟩ := sub_list l (fun y hy => h y (List.mem_cons_of_mem _ hy))
  exact ⟨⟨x, h x (List.mem_cons_self ..)⟩ :: ys, by simp [e]⟩
theorem info9' : (Tryz.prog.info? 9).map (fun i => (i.zero, i.size, i.bytes)) = some (some (.string ⟨#[]⟩), 1, 16) := by kernel_rfl
theorem keeps_below {W W' : World} (h : Below W.heap.size W W') : KeepsOthers W W' := ⟨h.size, fun k o hk _ => (h.block k (Array.getElem?_eq_some_iff.1 hk).1).trans hk⟩
theorem boxed_below {W W' : World} {B : Nat} {t : TypeId} {v : Value} (h : Boxed W B t v) (hb : Below W.heap.size W W') : Boxed W' B t v := (hb.block B h.lt).trans h
theorem row_below {W W' : World} {n e size n0 : Nat} {v : Value} {xs : List Value} (h : W.ownsRow n0 e size v n xs) (hb : Below W.heap.size W W') : W'.ownsRow n0 e size v n xs := by
 obtain ⟨h1, h2⟩ := h
 refine ⟨h1, ?_⟩
 rcases h2 with h2 | ⟨g, cap, cur, a1, a2, a3, a4⟩
 ·
  exact .inl h2
 ·
  exact .inr ⟨g, cap, cur, a1, a2, (hb.block g (Array.getElem?_eq_some_iff.1 a3).1).trans a3, a4⟩
def TI (w : World) (pre : List TA) (W : World) : Prop :=
  (∃ v, Boxed W w.heap.size 55 v ∧ W.ownsRow w.heap.size 9 1 v pre.length (pre.map fun x => Value.string (item x.1)) ∧ True) ∧ Below w.heap.size w W
theorem body_facts {w W w1 : World} {pre : List TA} {x : TA} {v : Value} {it : ByteArray} (hit : it = item x.1) (hv : Boxed W w.heap.size 55 v) (hrow : W.ownsRow w.heap.size 9 1 v pre.length (pre.map fun x => Value.string (item x.1)))
  (hB : Below w.heap.size w W) (hl : pre.length < 1099511627776) (hb : Below W.drew.heap.size W.drew w1) :
  ∃ v' w2 g cap, (appendO #[55, 55] 55 #[v, .slice (some ⟨w1.heap.size, 0, none⟩) 1 1]).run Tryz.prog (w1.alloc (.cells #[.string it] 9)) = .ok v' w2 ∧ v' = .slice (some ⟨g, 0, none⟩) (pre.length + 1) cap ∧
   w.heap.size < w1.heap.size ∧ w1.cell? ⟨w.heap.size, 0, none⟩ = some v ∧ w2.cell? ⟨w.heap.size, 0, none⟩ = some v ∧ w2.frozen? ⟨w.heap.size, 0, none⟩ = false ∧
   KeepsOthers W (w2.setCell ⟨w.heap.size, 0, none⟩ v') ∧ Below w.heap.size W (w2.setCell ⟨w.heap.size, 0, none⟩ v') ∧ TI w (pre ++ [x]) (w2.setCell ⟨w.heap.size, 0, none⟩ v') := by
 subst hit
 obtain ⟨i0, hi, hz0, hz1, hz2⟩ := info_parts info9'
 have hb' : Below W.heap.size W w1 := ⟨hb.os, hb.tape, hb.output, hb.size, hb.block⟩
 have hv1 := boxed_below hv hb'
 have hr1 := row_below hrow hb'
 have hsz := hB.size
 obtain ⟨v', w2, hrun, hown, hgrow, hnil⟩ := run_append_own (P := Tryz.prog) (w := w1.alloc (.cells #[.string (item x.1)] 9)) w.heap.size 55 55 9 i0 (.string ⟨#[]⟩) 1 16 Tryz.underlying55 hi hz0 hz1 hz2 rfl (by decide) v pre.length _ (hr1.alloc _) ⟨w1.heap.size, 0, none⟩ 1 1 [.string (item x.1)] rfl (cell_one_new _ _ _) (by simp [Value.oneCell']) (by simp only [maxLen]; omega) (by omega) (by have := hb'.size; simp; omega)
 obtain ⟨g', cap', e⟩ := ownsRow_succ hown
 obtain ⟨a1, a2, a3, a4, a5⟩ := hv1.appended (by decide) hr1 (Nat.le_trans hsz hb'.size) (Nat.le_refl _) hown hgrow
 exact ⟨v', w2, g', cap', hrun, e, hv1.lt, hv1.cell, a1.cell, a1.frozen, (keeps_below hb').trans a4, (hb'.mono hsz).trans a5, ⟨_, a2, by simpa using a3, trivial⟩, hB.trans ((hb'.mono hsz).trans a5)⟩
theorem wpOpIn_inRound {F : Fence} {n : Nat} {P : Program} {ops : Array Oper} {Q : Exit → Act → World → Prop} (l : Nat) (hd : ∀ (i : Nat) (o : Oper), ops[i]? = some o → ∀ c, o.op ≠ Op.defer c) (i : Nat) (K : Act → World → Prop) (a : Act) (w : World) :
  wpOpIn (F.inRound l) n P ops Q i K a w = wpOpIn F n P ops Q i K a w := by
 unfold wpOpIn
 cases h : ops[i]? with
 | none => rfl
 | some o =>
  dsimp only
  unfold Oper.wpIn
  rw [Oper.semAt_eq _ _ _ (hd i o h), Oper.semAt_eq _ _ _ (hd i o h)]
  rfl
theorem wpAnyIn_inRound {F : Fence} {n : Nat} {P : Program} {md : Region.Mode} {ops : Array Oper} {Q : Exit → Act → World → Prop} (l : Nat) (hd : ∀ (i : Nat) (o : Oper), ops[i]? = some o → ∀ c, o.op ≠ Op.defer c) :
  ∀ fuel listed a w, wpAnyIn (F.inRound l) n P md ops Q fuel listed a w = wpAnyIn F n P md ops Q fuel listed a w
 | 0, listed, a, w => rfl
 | fuel + 1, listed, a, w => by
  have ih : ∀ listed, wpAnyIn (F.inRound l) n P md ops Q fuel listed = wpAnyIn F n P md ops Q fuel listed := fun listed => by
   funext a w; exact wpAnyIn_inRound l hd fuel listed a w
  unfold wpAnyIn
  simp only [wpOpIn_inRound l hd, ih]
def noDefer (ops : Array Oper) : Bool := ops.all fun o => match o.op with | .defer _ => false | _ => true
theorem noDefer_spec {ops : Array Oper} (h : noDefer ops = true) (i : Nat) (o : Oper) (hi : ops[i]? = some o) (c) : o.op ≠ Op.defer c := by
 intro e
 obtain ⟨hlt, he⟩ := Array.getElem?_eq_some_iff.1 hi
 have := Array.all_eq_true.1 h i hlt
 rw [he, e] at this
 cases this
theorem join_any (w W : World) (ys : List TA) (l0 : List S85) (hys : ys.map Subtype.val = l0) (v : Value) (hrow : W.ownsRow w.heap.size 9 1 v ys.length (ys.map fun x => Value.string (item x.1))) (h1 : ys.length < 1099511627776) (h2 : (joined l0).length < 140737488355320) :
  Calls Tryz.prog 106 #[v, .string ⟨#[44, 32]⟩] W fun e w' => e = .returned (.string ⟨(joined l0).toArray⟩) ∧ Below W.heap.size W w' := by
 have hj : joined l0 = Lib.join ((ys.map fun x => item x.1).map (·.data.toList)) (⟨#[44, 32]⟩ : ByteArray).data.toList := by
  subst hys
  simp [joined, List.map_map]
  rfl
 obtain ⟨hl, hr⟩ := hrow
 rcases hr with ⟨rfl, h0⟩ | ⟨g, cap, cur, rfl, hg, hb, hc, hm, hs, ht⟩
 ·
  have : ys = [] := List.eq_nil_of_length_eq_zero h0
  subst this
  subst hys
  refine (Tryz.strings_Join_none none 0 _ W).mono ?_
  rintro e w' ⟨rfl, rfl⟩
  exact ⟨rfl, Below.refl _ _⟩
 ·
  have hlen : (ys.map fun x => item x.1).length = ys.length := List.length_map ..
  have hJ := Tryz.strings_Join g 0 cap (ys.map fun x => item x.1) ⟨#[44, 32]⟩ W (fun j x hx => by
   have hjl : j < ys.length := by simpa using (List.getElem?_eq_some_iff.1 hx).1
   rw [blk_cell hb, Nat.zero_add]
   have := congrArg (fun l => l[j]?) ht
   simp only [Nat.mul_one, List.getElem?_take, if_pos hjl, List.getElem?_map] at this
   rw [← Array.getElem?_toList, this]
   simp only [List.getElem?_map] at hx
   cases hy : ys[j]? with
   | none => simp [hy] at hx
   | some y => simp [hy] at hx ⊢; exact hx) (Array.getElem?_eq_some_iff.1 hb).1 (by rw [hlen]; omega) (by rw [hlen]; exact hc) (by rw [← hj]; omega)
  rw [hlen, ← hj] at hJ
  exact hJ
set_option maxRecDepth 1000000 in
set_option maxHeartbeats 4000000 in
theorem attr_Text.calls (A0 : Option Addr) (c0 : Nat) (l0 : List S85) (r : ByteArray) (w : World) (hr0 : Kd.C k85 w A0 l0.length l0) (hc0 : l0.length ≤ c0) (h : attr_Text.f l0 = some r) :
  Calls Tryz.prog 85 #[.slice A0 l0.length c0] w fun e w' => e = .returned (.string r) ∧ Below w.heap.size w w' := by
 unfold attr_Text.f at h
 split at h
 case isFalse => cases h
 rename_i hc
 obtain ⟨hc1, hc2, hc3⟩ := hc
 cases h
 obtain ⟨ys, hys⟩ := sub_list l0 (fun x hx => by simpa using List.all_eq_true.1 hc2 x hx)
 have HC1 := Aside0.mk hc1
 have HC3 := Aside0.mk hc3
 have HL : ys.length = l0.length := by rw [← hys, List.length_map]
 have HYS := Aside0.mk hys
 have HLY := Aside0.mk HL
 have HRW := Aside0.mk hr0
 clear hc1 hc2 hc3 hys HL hr0
 refine (callsIn_wide (n := 5)).1 ?_
 refine callsIn_of_wp_marks Tryz.func85 rfl trivial ?_ rfl
 simp only [Tryz.ntmps85, List.size_toArray, List.length_cons, List.length_nil, Nat.reduceAdd, Nat.reduceSub, Array.replicate_succ, Array.replicate_zero, List.push_toArray, List.append_toArray, List.nil_append, List.cons_append]
 gi_wp2_with (refine ⟨trivial, ?_⟩; gi_at_call 105; refine (each_in Fence.wide _ trivial rfl _ _ _ _).mono ?_; rintro e w' ⟨rfl, rfl⟩)
 have bO := Boxed.new w 55 (.slice none 0 0)
 have bN := Boxed.new (w.alloc (.cells #[.slice none 0 0] 55)) 32 (.slice A0 l0.length c0)
 rw [World.size_alloc] at bN
 have hB0 : Below w.heap.size w ((w.alloc (.cells #[.slice none 0 0] 55)).alloc (.cells #[.slice A0 l0.length c0] 32)) := ((Below.refl _ w).alloc (Nat.le_refl _) _).alloc (by simp) _
 refine wpIn_rangeFunc_ownG (F := Fence.wide) rfl (by omega) (gf := 123) (lb := #[.pointer (some ⟨w.heap.size + 1, 0, none⟩)]) rfl trivial (enters_of Tryz.func123 (by kernel_rfl) rfl)
  (each_stops Subtype.val ys Fence.wide _ trivial rfl (by omega) (w.heap.size + 1) c0 A0 l0 HYS.out w _ HRW.out hc0 hB0 bN.cell) belowK_t (belowK_b (by simp; omega)) (Below.refl _ _) (fun _ => rfl)
  (TI w)
  (fun _ _ _ => False)
  (OwnFrom.and (Own.from (holdsRow_own w.heap.size w.heap.size 55 9 1 (fun pre : List TA => pre.length) (fun pre => pre.map fun x => Value.string (item x.1)) (fun _ _ => True)) _) (ownFrom_below (Nat.le_refl _) (by simp; omega)))
  (fun _ _ _ _ _ hs _ _ => hs)
  ⟨⟨_, bO.alloc _, World.ownsRow_nil _ _ _ _, trivial⟩, hB0⟩
  (fun x => { tmps := #[.slice A0 l0.length c0, undef, .string ⟨#[]⟩, .pointer (some ⟨w.heap.size, 0, none⟩), .string x.1.f0, .string x.1.f1, .slice A0 l0.length c0, .func (.func 123) #[] #[.pointer (some ⟨w.heap.size + 1, 0, none⟩)], .string x.1.f0, .string x.1.f1, undef, undef, undef, undef, undef, undef, undef, undef, undef, undef, undef, undef], defers := [] }) ?assign ?body ?done ?stop
 case assign =>
  intro l x W K hK
  gi_wp2
  exact hK
 case stop =>
  rintro D c pre W _ _ h _
  exact h.elim
 case body =>
  rintro l pre x W ⟨⟨v, hv, hrow, -⟩, hB⟩ hlt
  have hmx : Tryz.prog.follows .mixedOrders = true := by kernel_rfl
  have hx1 := x.2.1
  have hx2 := x.2.2
  obtain ⟨q, hqe⟩ : ∃ q, q = (⟨#[34]⟩ : ByteArray) ++ (⟨(escL x.1.f1.data.toList).toArray⟩ : ByteArray) ++ (⟨#[34]⟩ : ByteArray) := ⟨_, rfl⟩
  have hq : attr_Quote.f x.1.f1 = some q := by rw [attr_Quote.f, if_pos (by omega), hqe]
  have hit : x.1.f0 ++ (⟨#[61]⟩ : ByteArray) ++ q = item x.1 := by rw [hqe]; rfl
  have hsq : q.size < 8589934592 := by
   rw [hqe, ByteArray.size_append, ByteArray.size_append]
   show 1 + (escL x.1.f1.data.toList).toArray.size + 1 < 8589934592
   rw [List.size_toArray, escL_len]
   have h2 : specN x.1.f1.data.toList ≤ x.1.f1.data.toList.length := List.countP_le_length
   have h3 : x.1.f1.data.toList.length = x.1.f1.size := Array.length_toList
   omega
  have hn1 : ¬ (9223372036854775807 < x.1.f0.size + 1) := by omega
  have hn2 : ¬ (9223372036854775807 < x.1.f0.size + 1 + q.size) := by omega
  have hz61 : (⟨#[61]⟩ : ByteArray).size = 1 := rfl
  have hpl : pre.length < 1099511627776 := by have := HC1.out; omega
  have HV := Aside0.mk hv
  have HR := Aside0.mk hrow
  have HB := Aside0.mk hB
  have HI := Aside0.mk hit
  have HP := Aside0.mk hpl
  have HQ := Aside0.mk (attr_Quote.calls x.1.f1 q W.drew hq)
  have hc := hv.cell
  clear hv hrow hB hq hqe hit hx1 hx2 hsq hpl hlt
  gi_wp2
  refine wpIn_region_any (by assumption) ?_
  rw [wpAnyIn_inRound l (noDefer_spec (by kernel_rfl))]
  change wpAnyIn _ _ _ _ _ _ _ _ _ (World.drew _)
  refine wpAnyIn_take (i := 1) (v := ?_) rfl rfl (by kernel_rfl) (by kernel_rfl) (by kernel_rfl) (fun _ _ _ h => h) ⟨Or.inl ⟨by rfl, ?_⟩, fun _ => rfl⟩ ?_
  case refine_2 => intro w; go_simp; with_reducible rfl
  refine wpAnyIn_take (i := 2) (v := ?_) rfl rfl (by kernel_rfl) (by kernel_rfl) (by kernel_rfl) (fun _ _ _ h => h) ⟨Or.inl ⟨by rfl, ?_⟩, fun _ => rfl⟩ ?_
  case refine_2 => intro w; go_simp; with_reducible rfl
  refine wpAnyIn_take (i := 3) (v := ?_) rfl rfl (by kernel_rfl) (by kernel_rfl) (by kernel_rfl) (fun _ _ _ h => h) ⟨Or.inl ⟨by rfl, ?_⟩, fun _ => rfl⟩ ?_
  case refine_2 => intro w; go_simp; with_reducible rfl
  refine wpAnyIn_ready (rs := [0, 4]) (by kernel_rfl) (by simp) ?_
  refine AllReadyIn.cons rfl (fun K hK => ?_) (AllReadyIn.cons rfl (fun K hK => ?_) AllReadyIn.nil)
  ·
   go_simp
   refine hK _ _ ?_
   clear hK K
   refine wpAnyIn_ready (rs := [4]) (by kernel_rfl) (by simp) ?_
   refine AllReadyIn.cons rfl (fun K hK => ?_) AllReadyIn.nil
   go_simp
   gi_wp2_with (refine ⟨trivial, ?_⟩; gi_at_call 84; refine (callsIn_wide.2 HQ.out).mono ?_; rintro e w1 ⟨rfl, hb⟩; obtain ⟨v', w2, g, cap, hrun, rfl, lt1, c1, c2, f2, k1, k2, k3⟩ := body_facts (x := x) HI.out HV.out HR.out HB.out HP.out hb; have K1 := Aside0.mk k1; have K2 := Aside0.mk k2; have K3 := Aside0.mk k3; clear k1 k2 k3 hb)
   refine wpAnyIn_take (i := 5) (v := ?_) rfl rfl (by kernel_rfl) (by kernel_rfl) (by kernel_rfl) (fun _ _ _ h => h) ⟨Or.inl ⟨by rfl, ?_⟩, fun _ => rfl⟩ ?_
   case refine_2 => intro w; go_simp; with_reducible rfl
   refine wpAnyIn_ready (rs := [6]) (by kernel_rfl) (by simp) ?_
   refine AllReadyIn.cons rfl (fun K hK => ?_) AllReadyIn.nil
   go_simp
   refine hK _ _ ?_
   clear hK K
   refine wpAnyIn_ready (rs := [7]) (by kernel_rfl) (by simp) ?_
   refine AllReadyIn.cons rfl (fun K hK => ?_) AllReadyIn.nil
   go_simp
   refine hK _ _ ?_
   clear hK K
   refine wpAnyIn_ready (rs := [8]) (by kernel_rfl) (by simp) ?_
   refine AllReadyIn.cons rfl (fun K hK => ?_) AllReadyIn.nil
   go_simp
   refine hK _ _ ?_
   clear hK K
   refine wpAnyIn_done (by kernel_rfl) ?_ _
   exact ⟨K1.out.from _, K2.out, K3.out⟩
  ·
   go_simp
   gi_wp2_with (refine ⟨trivial, ?_⟩; gi_at_call 84; refine (callsIn_wide.2 HQ.out).mono ?_; rintro e w1 ⟨rfl, hb⟩; obtain ⟨v', w2, g, cap, hrun, rfl, lt1, c1, c2, f2, k1, k2, k3⟩ := body_facts (x := x) HI.out HV.out HR.out HB.out HP.out hb; have K1 := Aside0.mk k1; have K2 := Aside0.mk k2; have K3 := Aside0.mk k3; clear k1 k2 k3 hb)
   refine wpAnyIn_take (i := 5) (v := ?_) rfl rfl (by kernel_rfl) (by kernel_rfl) (by kernel_rfl) (fun _ _ _ h => h) ⟨Or.inl ⟨by rfl, ?_⟩, fun _ => rfl⟩ ?_
   case refine_2 => intro w; go_simp; with_reducible rfl
   refine wpAnyIn_ready (rs := [0, 6]) (by kernel_rfl) (by simp) ?_
   refine AllReadyIn.cons rfl (fun K hK => ?_) (AllReadyIn.cons rfl (fun K hK => ?_) AllReadyIn.nil)
   ·
    go_simp
    refine hK _ _ ?_
    clear hK K
    refine wpAnyIn_ready (rs := [6]) (by kernel_rfl) (by simp) ?_
    refine AllReadyIn.cons rfl (fun K hK => ?_) AllReadyIn.nil
    go_simp
    refine hK _ _ ?_
    clear hK K
    refine wpAnyIn_ready (rs := [7]) (by kernel_rfl) (by simp) ?_
    refine AllReadyIn.cons rfl (fun K hK => ?_) AllReadyIn.nil
    go_simp
    refine hK _ _ ?_
    clear hK K
    refine wpAnyIn_ready (rs := [8]) (by kernel_rfl) (by simp) ?_
    refine AllReadyIn.cons rfl (fun K hK => ?_) AllReadyIn.nil
    go_simp
    refine hK _ _ ?_
    clear hK K
    refine wpAnyIn_done (by kernel_rfl) ?_ _
    exact ⟨K1.out.from _, K2.out, K3.out⟩
   ·
    go_simp
    refine hK _ _ ?_
    clear hK K
    refine wpAnyIn_ready (rs := [0]) (by kernel_rfl) (by simp) ?_
    refine AllReadyIn.cons rfl (fun K hK => ?_) AllReadyIn.nil
    go_simp
    refine hK _ _ ?_
    clear hK K
    refine wpAnyIn_ready (rs := [7]) (by kernel_rfl) (by simp) ?_
    refine AllReadyIn.cons rfl (fun K hK => ?_) AllReadyIn.nil
    go_simp
    refine hK _ _ ?_
    clear hK K
    refine wpAnyIn_ready (rs := [8]) (by kernel_rfl) (by simp) ?_
    refine AllReadyIn.cons rfl (fun K hK => ?_) AllReadyIn.nil
    go_simp
    refine hK _ _ ?_
    clear hK K
    refine wpAnyIn_done (by kernel_rfl) ?_ _
    exact ⟨K1.out.from _, K2.out, K3.out⟩
 case done =>
  rintro D zs W hD rfl ⟨⟨v, hv, hrow, -⟩, hB⟩ hK
  have hc := hv.cell
  have HJ := Aside0.mk (join_any w W zs l0 HYS.out v hrow (by have := HC1.out; have := HLY.out; omega) HC3.out)
  have HB := Aside0.mk hB
  have HK := Aside0.mk hK
  have hj : ((⟨(joined l0).toArray⟩ : ByteArray)).size < 140737488355320 := by
   have := HC3.out
   show (joined l0).toArray.size < _
   simpa using this
  obtain ⟨js, hjs⟩ : ∃ js : ByteArray, js = ⟨(joined l0).toArray⟩ := ⟨_, rfl⟩
  rw [← hjs] at hj HJ
  have HS := Aside0.mk hjs
  have hz1 : (⟨#[123]⟩ : ByteArray).size = 1 := rfl
  have hz2 : (⟨#[125]⟩ : ByteArray).size = 1 := rfl
  have hn1 : ¬ (9223372036854775807 < 1 + js.size) := by omega
  have hn2 : ¬ (9223372036854775807 < 1 + js.size + 1) := by omega
  clear hrow hB hv hjs hj
  gi_wp2_with (refine ⟨trivial, ?_⟩; gi_at_call 106; refine (callsIn_wide.2 HJ.out).mono ?_; rintro e w1 ⟨rfl, hb⟩; have HB1 := Aside0.mk hb; clear hb)
  refine ⟨by simp, .inl ⟨_, _, rfl, run_takeDeferred ((HB1.out.block D (Array.getElem?_eq_some_iff.1 HK.out).1).trans HK.out), ?_⟩⟩
  refine ⟨_, results_tmp rfl _ _ _, by rw [← HS.out]; rfl, ?_⟩
  exact (HB.out.trans (HB1.out.mono HB.out.size)).trans (belowK_b (w := w) (Nat.le_refl _) w1 D _ _ (by simp at hD; omega) ((HB1.out.block D (Array.getElem?_eq_some_iff.1 HK.out).1).trans HK.out) rfl rfl)
end Go.Proofs.YtefeibndnghejaaGreatDoor.Pr
end
section
set_option linter.unusedVariables false
set_option linter.unusedSimpArgs false
namespace Go.Proofs.YtefeibndnghejaaGreatDoor.Pr
open Go.RowKit Go.Proofs.YtefeibndnghejaaGreatDoorW.PrintWords Go.Proofs.YtefeibndnghejaaGreatDoorW.PrintLast Go.Proofs.YtefeibndnghejaaGreatDoorW.PrintMore
theorem add_span' (g o : Nat) (cs : Array Value) (m : Value) (p : List Int × List Int) (hp : spDom p) (v : Bool) (w : World) (base N : Nat) (F : Nat → Prop) (f : (List Int × List Int) → List Bool) (hb : w.heap[g]? = some (.cells cs 81 (0, 0))) (ho : cs[o]? = some m) (h : MSpn w base F m f N)
  (hN : N < 1099511627776) (hgF : ¬ F g) (hfr : ∀ q, w.heap.size ≤ q → F q) (hbase : base ≤ w.heap.size) (hln : (f p).length < 1099511627776) (f' : (List Int × List Int) → List Bool) (hf' : ∀ x, spDom x → f' x = if x = p then f p ++ [v] else f x) :
  Calls Tryz.prog 72 #[.pointer (some ⟨g, o, none⟩), spVal p, .bool v] w fun e w' => (∃ u, e = .returned u) ∧ ∃ m', w'.heap[g]? = some (.cells (cs.setIfInBounds o m') 81 (0, 0)) ∧ MSpn w' base F m' f' (N + 1) ∧ Chg (fun q => q = g ∨ F q) w w' := by
 refine (add_span g o cs m p hp v w base N (fun q => F q ∧ q ≠ w.heap.size) f hb ho (h.bound.mono (fun q hq => ⟨hq.1, by have := hq.2.2; omega⟩)) hN (fun e => hgF e.1) (fun q hq hne => ⟨hfr q hq, hne⟩) (fun e => e.2 rfl) hbase hln f' hf').mono ?_
 rintro e w' ⟨hu, m', h1, h2, h3⟩
 exact ⟨hu, m', h1, h2.mono (fun q hq => hq.1), h3.mono (fun q hq => hq.imp id (fun x => x.1))⟩
def quoteB (s : ByteArray) : ByteArray := (⟨#[34]⟩ : ByteArray) ++ (⟨(escL s.data.toList).toArray⟩ : ByteArray) ++ (⟨#[34]⟩ : ByteArray)
def textB (l : List S85) : ByteArray := (⟨#[123]⟩ : ByteArray) ++ ⟨(joined l).toArray⟩ ++ (⟨#[125]⟩ : ByteArray)
def skeyB (r : Rd) : ByteArray := quoteB r.x.nm ++ textB r.a
structure Rd.fine (r : Rd) : Prop where
  ok : r.x.ok
  nm : r.x.nm.size < 140737488355312
  tx : attr_Text.f r.a = some (textB r.a)
  al : r.a.length ≤ 16
theorem quoteB_size (s : ByteArray) (h : s.size < 140737488355312) : (quoteB s).size ≤ 281474976710632 := by
 unfold quoteB
 rw [ByteArray.size_append, ByteArray.size_append]
 show 1 + (escL s.data.toList).toArray.size + 1 ≤ _
 rw [List.size_toArray, escL_len]
 have h2 : specN s.data.toList ≤ s.data.toList.length := List.countP_le_length
 have h3 : s.data.toList.length = s.size := Array.length_toList
 omega
theorem textB_size {l : List S85} {tx : ByteArray} (h : attr_Text.f l = some tx) : tx.size ≤ 140737488355330 := by
 unfold attr_Text.f at h
 split at h
 ·
  rename_i hc
  cases h
  rw [ByteArray.size_append, ByteArray.size_append]
  show 1 + (joined l).toArray.size + 1 ≤ _
  rw [List.size_toArray]
  have := hc.2.2
  omega
 ·
  cases h
def store_seriesKey.T1 : Bool × List (List Nat × List Nat) := (true, [([], []), ([0], [0]), ([1], [1]), ([], []), ([3], [3]), ([4, 2], [4]), ([2, 5], [2, 5]), ([6, 5, 0, 1, 2, 3, 4, 5, 6], [6])])
def store_seriesKey.B1 : List Nat := [0, 1, 3, 0, 8, 31, 63, 127]
set_option maxRecDepth 100000 in
theorem store_seriesKey.tab1 : rtab .any (opsOf Tryz.f65 1) = store_seriesKey.T1 := by kernel_rfl
set_option maxRecDepth 100000 in
theorem store_seriesKey.bits1 : waitsOk store_seriesKey.T1.2 store_seriesKey.B1 = true := by kernel_rfl
set_option maxRecDepth 100000 in
set_option maxHeartbeats 4000000 in
theorem seriesKey_walk (r : Rd) (hr : r.fine) (A : Option Addr) (c : Nat) (w : World) (ha : Kd.C k85 w A r.a.length r.a) (hc : r.a.length ≤ c) :
  Calls Tryz.prog 65 #[.agg (r.x.cells (.slice A r.a.length c))] w fun e w' => e = .returned (.string (skeyB r)) ∧ Below w.heap.size w w' := by
 obtain ⟨cs, hcs⟩ : ∃ cs, cs = r.x.cells (.slice A r.a.length c) := ⟨_, rfl⟩
 have hs : cs.size = 40 := by rw [hcs]; exact Rc.size hr.ok _
 have h1 : cs[1]? = some (.string r.x.nm) := by rw [hcs]; rfl
 have h2 : cs[2]? = some (.slice A r.a.length c) := by rw [hcs]; exact Rc.at2 _ _
 rw [← hcs]
 have hT := hr.tx
 have hq0 : attr_Quote.f r.x.nm = some (quoteB r.x.nm) := by rw [attr_Quote.f, if_pos hr.nm]; rfl
 have hz1 := quoteB_size _ hr.nm
 have hz2 := textB_size hr.tx
 unfold skeyB
 generalize textB r.a = tx at hT hz2 ⊢
 obtain ⟨x, l⟩ := r
 simp only at *
 generalize x.nm = nm at hq0 hz1 h1 ⊢
 have HQ := Aside0.mk hq0
 have HT := Aside0.mk hT
 have HR := Aside0.mk ha
 have HC := Aside0.mk hc
 clear hq0 hT ha hc hcs hr
 obtain ⟨W1, hW1⟩ : ∃ W1, W1 = w.alloc (.cells cs 36) := ⟨_, rfl⟩
 have HBW := Aside0.mk (hW1 ▸ below_alloc (Below.refl _ _) _ : Below w.heap.size w W1)
 have HN := Aside0.mk (hW1 ▸ blk_new w _ : W1.heap[w.heap.size]? = some (.cells cs 36 (0, 0)))
 have hn1 : ¬ (9223372036854775807 < (quoteB nm).size + tx.size) := by omega
 go_enter Tryz.func65, Tryz.ntmps65
 go_upto_region 1 with (fail)
 rw [← hW1]
 clear hW1
 refine start_ (n := 8) (S := fun w' => Below W1.heap.size W1 w') (ds := [7]) #[false, false, false, false, false, false, false, false] (by kernel_rfl) rfl rfl (below_drew1 (Below.refl _ _)) (fun hHeld => ?_)
 refine with_tabW store_seriesKey.tab1 store_seriesKey.bits1 (fun HT_ HW_ => ?_)
 generalize W1.drew = W0 at hHeld ⊢
 refine pure_ (i := 0) (N := some 3) (v := ?_) (a' := ?_) #[true, false, false, false, false, false, false, false] rfl rfl (any_of HT_.out (by kernel_rfl)) (fun _ _ _ h => h) (Or.inl ⟨by rfl, ?_⟩) ?_ ?_
 rotate_left
 ·
  intro w'
  go_simp
  with_reducible rfl
 rotate_left
 ·
  simp only [Act.put, List.setIfInBounds_toArray, List.set_cons_zero, List.set_cons_succ, i64_w, i32_w]
  rfl
 refine pure_ (i := 3) (N := some 6) (v := ?_) (a' := ?_) #[true, false, false, true, false, false, false, false] rfl rfl (any_of HT_.out (by kernel_rfl)) (fun _ _ _ h => h) (Or.inl ⟨by rfl, ?_⟩) ?_ ?_
 rotate_left
 ·
  intro w'
  go_simp
  with_reducible rfl
 rotate_left
 ·
  simp only [Act.put, List.setIfInBounds_toArray, List.set_cons_zero, List.set_cons_succ, i64_w, i32_w]
  rfl
 refine take_ (i := 1) (N := some 4) (v := ?_) (a' := ?_) #[true, true, false, true, false, false, false, false] rfl rfl (take_ofW HT_.out HW_.out (by kernel_rfl)) (fun _ _ _ h => h) (Or.inl ⟨by rfl, ?_⟩) hHeld ?_ ?_
 rotate_left
 ·
  rintro w' hw
  have y := (blk_cell (blk_below HN.out hw) 1).trans h1
  go_simp
  with_reducible rfl
 rotate_left
 ·
  simp only [Act.put, List.setIfInBounds_toArray, List.set_cons_zero, List.set_cons_succ, i64_w, i32_w]
  rfl
 refine take_ (i := 4) (N := some 7) (v := ?_) (a' := ?_) #[true, true, false, true, true, false, false, false] rfl rfl (take_ofW HT_.out HW_.out (by kernel_rfl)) (fun _ _ _ h => h) (Or.inl ⟨by rfl, ?_⟩) hHeld ?_ ?_
 rotate_left
 ·
  rintro w' hw
  have y := (blk_cell (blk_below HN.out hw) 2).trans h2
  go_simp
  with_reducible rfl
 rotate_left
 ·
  simp only [Act.put, List.setIfInBounds_toArray, List.set_cons_zero, List.set_cons_succ, i64_w, i32_w]
  rfl
 refine one_ (i := 2) (N := some 5) #[true, true, true, true, true, false, false, false] rfl rfl (one_of HT_.out (by kernel_rfl)) (by decide) (fun K hK => ?_)
 refine goes_ Tryz.func84 (by kernel_rfl) rfl #[.string nm] (by rfl) rfl rfl (by (try simp only [List.map_toArray, List.map_cons, List.map_nil]); first | done | rfl) ?_
 refine (attr_Quote.calls nm (quoteB nm) W0 HQ.out).mono ?_
 rintro e w2 ⟨rfl, hd⟩
 refine ⟨_, rfl, ?_⟩
 refine hK.out _ _ (below_step hHeld hd) (fun hHeld => ?_)
 clear hK K hd
 refine norm_ (a' := ?_) ?_ ?_
 rotate_left
 ·
  show Act.put _ (some 5) _ = _
  simp only [Act.put, List.setIfInBounds_toArray, List.set_cons_zero, List.set_cons_succ, i64_w, i32_w]
  rfl
 refine one_ (i := 5) (N := some 8) #[true, true, true, true, true, true, false, false] rfl rfl (one_of HT_.out (by kernel_rfl)) (by decide) (fun K hK => ?_)
 refine goes_ Tryz.func85 (by kernel_rfl) rfl #[.slice A l.length c] (by rfl) rfl rfl (by (try simp only [List.map_toArray, List.map_cons, List.map_nil]); first | done | rfl) ?_
 refine (attr_Text.calls A c l tx w2 (Kd.C_below HR.out (below_step HBW.out hHeld)) HC.out HT.out).mono ?_
 rintro e w3 ⟨rfl, hd⟩
 refine ⟨_, rfl, ?_⟩
 refine hK.out _ _ (below_step hHeld hd) (fun hHeld => ?_)
 clear hK K hd
 refine norm_ (a' := ?_) ?_ ?_
 rotate_left
 ·
  show Act.put _ (some 8) _ = _
  simp only [Act.put, List.setIfInBounds_toArray, List.set_cons_zero, List.set_cons_succ, i64_w, i32_w]
  rfl
 refine pure_ (i := 6) (N := some 9) (v := ?_) (a' := ?_) #[true, true, true, true, true, true, true, false] rfl rfl (any_of HT_.out (by kernel_rfl)) (fun _ _ _ h => h) (Or.inl ⟨by rfl, ?_⟩) ?_ ?_
 rotate_left
 ·
  intro w'
  go_simp
  with_reducible rfl
 rotate_left
 ·
  simp only [Act.put, List.setIfInBounds_toArray, List.set_cons_zero, List.set_cons_succ, i64_w, i32_w]
  rfl
 refine pure_ (i := 7) (N := some 2) (v := ?_) (a' := ?_) #[true, true, true, true, true, true, true, true] rfl rfl (any_of HT_.out (by kernel_rfl)) (fun _ _ _ h => h) (Or.inl ⟨by rfl, ?_⟩) ?_ ?_
 rotate_left
 ·
  intro w'
  go_simp
  with_reducible rfl
 rotate_left
 ·
  simp only [Act.put, List.setIfInBounds_toArray, List.set_cons_zero, List.set_cons_succ, i64_w, i32_w]
  rfl
 refine done_ (done_of HT_.out (by kernel_rfl)) ?_
 go_wp2
 go_ret
 exact ⟨rfl, below_step HBW.out hHeld⟩
end Go.Proofs.YtefeibndnghejaaGreatDoor.Pr
end
section
set_option linter.unusedVariables false
set_option linter.unusedSimpArgs false
namespace Go.Proofs.YtefeibndnghejaaGreatDoor.Pr
open Go.RowKit Go.Proofs.YtefeibndnghejaaGreatDoorW.PrintWords Go.Proofs.YtefeibndnghejaaGreatDoorW.PrintLast Go.Proofs.YtefeibndnghejaaGreatDoorW.PrintMore
def stC (most : Int) (l sm sp : Value) (ver : Int) : Array Value := #[.int .i64 most, l, sm, sp, .int .i64 ver]
theorem new_some (most : Int) (w : World) (h1 : 1 ≤ most) (h2 : most ≤ 20000) :
  Calls Tryz.prog 34 #[.int .i64 most] w fun e w' => e = .returned (.pointer (some ⟨w.heap.size, 0, none⟩)) ∧ w' = w.alloc (.cells (stC most (.slice none 0 0) (.map none) (.map none) 0) 81) := by
 have b0 : decide (most < 1) = false := decide_eq_false (by omega)
 have b1 : decide (20000 < most) = false := decide_eq_false (by omega)
 go_enter Tryz.func34, Tryz.ntmps34
 go_wp2
 go_ret
 exact ⟨rfl, rfl⟩
theorem version_nil (w : World) : Calls Tryz.prog 16 #[.pointer none] w fun e w' => e = .returned (.int .i64 0) ∧ w' = w := by
 go_enter Tryz.func16, Tryz.ntmps16
 go_wp2
 go_ret
 exact ⟨rfl, rfl⟩
theorem version_at (g : Nat) (most : Int) (l sm sp : Value) (ver : Int) (w : World) (h : w.heap[g]? = some (.cells (stC most l sm sp ver) 81 (0, 0))) : Calls Tryz.prog 16 #[.pointer (some ⟨g, 0, none⟩)] w fun e w' => e = .returned (.int .i64 ver) ∧ w' = w := by
 have h4 := (blk_cell h 4).trans (show _ = some (.int .i64 ver) from rfl)
 clear h
 go_enter Tryz.func16, Tryz.ntmps16
 go_wp2
 go_ret
 exact ⟨rfl, rfl⟩
theorem cut_nil (t : Int) (w : World) : Calls Tryz.prog 17 #[.pointer none, .int .i64 t] w fun e w' => e = .returned (.int .i64 0) ∧ Below w.heap.size w w' := by
 go_enter Tryz.func17, Tryz.ntmps17
 go_wp2
 go_ret
 exact ⟨rfl, below_alloc (Below.refl _ _) _⟩
theorem copy_nil (w : World) : Calls Tryz.prog 14 #[.pointer none] w fun e w' => e = .returned (.pointer none) ∧ w' = w := by
 go_enter Tryz.func14, Tryz.ntmps14
 go_wp2
 go_ret
 exact ⟨rfl, rfl⟩
theorem same_nil (p : Option Addr) (w : World) : Calls Tryz.prog 15 #[.pointer none, .pointer p] w fun e w' => e = .returned (.bool false) ∧ Drawn0 w w' := by
 go_enter Tryz.func15, Tryz.ntmps15
 go_wp2
 repeat (go_quiet (fail); try go_wp2)
 go_ret
 exact ⟨rfl, ⟨_, rfl⟩⟩
end Go.Proofs.YtefeibndnghejaaGreatDoor.Pr
end
