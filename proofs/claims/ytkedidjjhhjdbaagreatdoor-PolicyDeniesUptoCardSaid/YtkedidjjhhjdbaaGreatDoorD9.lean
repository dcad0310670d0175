import Derived.Test.YtkedidjjhhjdbaaGreatDoorD0
import Derived.Test.YtkedidjjhhjdbaaGreatDoorD5
import Derived.Test.YtkedidjjhhjdbaaGreatDoorD2
import Derived.Lib.SliceRun
import Derived.Sort.AssemblyPlain
import Derived.Shelf.SlSortCmp.WholeK
import Derived.Test.YtkedidjjhhjdbaaGreatDoorD6
import Derived.Shelf.SlGeneric
import Derived.Shelf.SlSortCmp.NoneTotal
import Derived.Ground.SlgnProg
import Derived.Ground.SlsfProg
import Derived.Test.YtkedidjjhhjdbaaGreatDoorProg
import Derived.Test.YtkedidjjhhjdbaaGreatDoorD8
import Derived.Test.YtkedidjjhhjdbaaGreatDoorD7
section
set_option linter.unusedVariables false
set_option linter.unusedSimpArgs false
namespace Go.Proofs.YtkedidjjhhjdbaaGreatDoor.Pr
open Go.RowKit Go.Proofs.YtkedidjjhhjdbaaGreatDoorW.PrintWords Go.Proofs.YtkedidjjhhjdbaaGreatDoorW.PrintLast Go.Proofs.YtkedidjjhhjdbaaGreatDoorW.PrintMore
structure StopAt2 (p : Prop) : Prop where
  out : p
set_option maxHeartbeats 1000000 in
set_option maxRecDepth 100000 in
theorem slices_Grow_M.calls (n : Nat) (w : World) (hn : n * 40 ≤ 140737488355328) :
  Calls Tryz.prog 91 #[.slice none 0 0, .int .i64 n] w fun e w' => ∃ v0_ : Value, e = .returned v0_ ∧ Kd.R k33 33 w' w.heap.size (fun _ => True) v0_ ([] : List S33) ∧ Below w.heap.size w w' := by
 have hu48 := Tryz.underlying28
 have hn2 : n ≤ 140737488355328 := by omega
 rcases Nat.eq_zero_or_pos n with h0 | h0
 ·
  subst h0; clear hn hn2
  go_enter Tryz.func91, Tryz.ntmps91
  go_wp2; go_ret
  exact ⟨_, rfl, Kd.R_nil _ _ _ _ _, Below.refl _ _⟩
 have HL := Aside0.mk hn; clear hn
 go_enter Tryz.func91, Tryz.ntmps91
 go_wp2_with (first | ((with_reducible refine gate_builtin (b := .append) (xs := #[.tmp 20, .tmp 21]) rfl ?_); at_builtin; refine Kd.R_append_zeros k33 (w0 := w) w.heap.size rfl (.tmp 20) (.tmp 21) 28 3 33 (.agg #[.int .i64 0, .string ⟨#[]⟩, .string ⟨#[]⟩]) 40 rfl Tryz.underlying28 Tryz.underlying3 info33 rfl (by decide) (by omega) (.slice none 0 0) ([] : List S33) z33 (n : Int) (fun _ => True) rfl rfl ?aZ (fun _ _ => trivial) ?aR (by omega) ?aB (Nat.le_refl _) ?aL ?_; (case aZ => exact k33_mkM _ _ _ z33); (case aR => exact Kd.R_nil _ _ _ _ _); (case aB => exact Below.refl _ _); (case aL => have := HL.out; simp only [List.length_nil]; omega); intro v1 w1 ho hb hg hat; obtain ⟨g, c, e1, hbg, _⟩ := Kd.R_form ho (by simp; omega); have hnc := (by have := ho; rw [e1] at this; exact (Kd.R_reads' this).2.1 : _); have HO := Aside0.mk ho; have HB := Aside0.mk hb; clear ho hb hg hat hbg; subst e1; simp only [List.nil_append, List.length_replicate] at HO hnc ⊢))
 go_ret
 exact ⟨_, rfl, by have := Kd.R_take HO.out (m := 0) (Nat.zero_le _); simpa using this, HB.out⟩
set_option maxHeartbeats 2000000 in
set_option maxRecDepth 100000 in
theorem slices_Concat_M.calls (b : Nat) (A0 A1 : Option Addr) (c0 c1 : Nat) (l0 l1 : List S33) (w : World) (h0 : w.cell? ⟨b, 0, none⟩ = some (.slice A0 l0.length c0)) (h1 : w.cell? ⟨b, 1, none⟩ = some (.slice A1 l1.length c1)) (hb : b < w.heap.size)
  (hr0 : Kd.C k33 w A0 l0.length l0) (hr1 : Kd.C k33 w A1 l1.length l1) (hn : (l0.length + l1.length) * 40 ≤ 140737488355328) :
  Calls Tryz.prog 62 #[.slice (some ⟨b, 0, none⟩) 2 2] w fun e w' => ∃ v0_ : Value, e = .returned v0_ ∧ Kd.R k33 33 w' w.heap.size (fun _ => True) v0_ (l0 ++ l1) ∧ Below w.heap.size w w' := by
 have hu48 := Tryz.underlying28; have hu80 := Tryz.underlying120
 have hn2 : l0.length + l1.length ≤ 3518437208883 := by omega
 have HL := Aside0.mk hn; have HR0 := Aside0.mk hr0; have HR1 := Aside0.mk hr1; clear hn hr0 hr1
 go_enter Tryz.func62, Tryz.ntmps62
 go_wp2_with fail
 refine wp_loop_rounds 3 ?_
 rw [rounds_succ]
 go_wp2_with fail
 rw [rounds_succ]
 go_wp2_with fail
 rw [rounds_succ]
 go_wp2_with fail
 refine (slices_Grow_M.calls (l0.length + l1.length) _ HL.out).mono ?_
 rintro e w1 ⟨v0, rfl, ho, hB⟩
 have HN := Aside0.mk hn2; have g0 := (hB.cell (p := ⟨b, 0, none⟩) hb).trans h0; have g1 := (hB.cell (p := ⟨b, 1, none⟩) hb).trans h1; have HO := Aside0.mk ho; have HB := Aside0.mk hB; have H0 := Aside0.mk h0; have H1 := Aside0.mk h1; have HLT := Aside0.mk hb; clear ho hB h0 h1 hb hn2
 go_wp2_with fail
 refine wp_loop_rounds 3 ?_
 rw [rounds_succ]
 go_wp2_with (first | ((with_reducible refine gate_builtin (b := .append) (xs := #[.tmp 31, .tmp 32]) rfl ?_); at_builtin; refine Kd.R_append_rows k33 (w0 := w) w.heap.size rfl (.tmp 31) (.tmp 32) 28 33 (.agg #[.int .i64 0, .string ⟨#[]⟩, .string ⟨#[]⟩]) 40 rfl Tryz.underlying28 info33 rfl (by decide) (by omega) v0 ([] : List S33) l0 A0 l0.length c0 (fun _ => True) (fun _ => False) rfl rfl HO.out (Kd.C_below HR0.out HB.out) (fun _ _ h => h) (fun _ h => h.elim) (fun _ _ => trivial) HB.out HB.out.size ?aL ?_; (case aL => have := HL.out; have := HN.out; simp only [List.length_nil, List.length_append]; omega); intro v1 w2 ho hb2 hg hat; apply StopAt2.out))
 apply StopAt2.mk
 clear g0 g1; have g0 := (hb2.cell (p := ⟨b, 0, none⟩) HLT.out).trans H0.out; have g1 := (hb2.cell (p := ⟨b, 1, none⟩) HLT.out).trans H1.out; have HO2 := Aside0.mk ho; have HB2 := Aside0.mk hb2; clear ho hb2 hg hat
 go_wp2_with fail
 rw [rounds_succ]
 go_wp2_with (first | ((with_reducible refine gate_builtin (b := .append) (xs := #[.tmp 31, .tmp 32]) rfl ?_); at_builtin; refine Kd.R_append_rows k33 (w0 := w) w.heap.size rfl (.tmp 31) (.tmp 32) 28 33 (.agg #[.int .i64 0, .string ⟨#[]⟩, .string ⟨#[]⟩]) 40 rfl Tryz.underlying28 info33 rfl (by decide) (by omega) v1 ([] ++ l0) l1 A1 l1.length c1 (fun _ => True) (fun _ => False) rfl rfl HO2.out (Kd.C_below HR1.out HB2.out) (fun _ _ h => h) (fun _ h => h.elim) (fun _ _ => trivial) HB2.out HB2.out.size ?aL ?_; (case aL => have := HL.out; have := HN.out; simp only [List.length_nil, List.length_append]; omega); intro v2 w3 ho hb2 hg hat; apply StopAt2.out))
 apply StopAt2.mk
 have HO3 := Aside0.mk ho; have HB3 := Aside0.mk hb2; clear ho hb2 hg hat g0 g1
 go_wp2_with fail
 rw [rounds_succ]
 go_wp2_with fail
 go_ret
 exact ⟨_, rfl, HO3.out, HB3.out⟩
end Go.Proofs.YtkedidjjhhjdbaaGreatDoor.Pr
end
section
namespace Go.Proofs.YtkedidjjhhjdbaaGreatDoor.Pr
open Go.RowKit Go.Proofs.YtkedidjjhhjdbaaGreatDoorW.PrintWords Go.Proofs.YtkedidjjhhjdbaaGreatDoorW.PrintLast Go.Proofs.YtkedidjjhhjdbaaGreatDoorW.PrintMore
attribute [local go_sem] max2_int min2_int max_two min_two max_three min_three max_four min_four strGtr strLeq strGeq
set_option linter.unusedVariables false
set_option linter.unusedSimpArgs false
theorem eqA33 (d : Nat) (w : World) (x0 y0 : Int) (x1 y1 : ByteArray) (x2 y2 : ByteArray) :
  (Op.equalIn (d + 2) 33 (.agg #[.int .i64 x0, .string x1, .string x2]) (.agg #[.int .i64 y0, .string y1, .string y2])).run Tryz.prog w = .ok (x0 == y0 && (x1.toList == y1.toList && (x2.toList == y2.toList))) w := by
 refine eqA_of Tryz.underlying33 (by kernel_rfl) ?_
 refine eqf_cons (by rfl) (by go_simp; rfl) (by go_simp; rfl) (by go_simp) ?_
 refine eqf_cons (by rfl) (by go_simp; rfl) (by go_simp; rfl) (by go_simp) ?_
 exact eqf_last (by rfl) (by go_simp; rfl) (by go_simp; rfl) (by go_simp)
end Go.Proofs.YtkedidjjhhjdbaaGreatDoor.Pr
end
section
set_option linter.unusedVariables false
set_option linter.unusedSimpArgs false
namespace Go.Proofs.YtkedidjjhhjdbaaGreatDoor.Pr
open Go.RowKit Go.Proofs.YtkedidjjhhjdbaaGreatDoorW.PrintWords Go.Proofs.YtkedidjjhhjdbaaGreatDoorW.PrintLast Go.Proofs.YtkedidjjhhjdbaaGreatDoorW.PrintMore
open Go.Sort (flatK HoldsK putRowK ahead grow)
theorem sw_heap_ne {α : Type} [Inhabited α] (enc : α → List Value) (k : Nat) (w : World) (g n : Nat) (d : Array α) (os : Array Obj) (i : Nat) (hi : i < w.heap.size) (hne : i ≠ g) : (sortWorldK enc k w g 0 n d os).heap[i]? = w.heap[i]? := by
 unfold sortWorldK Sort.grow Sort.putRowK Sort.putRow Sort.mapBlock Sort.ahead
 simp only
 rw [Array.getElem?_append_left (by simpa using hi), Array.getElem?_modify, if_neg (Ne.symm hne)]
theorem sw_heap_eq {α : Type} [Inhabited α] (enc : α → List Value) (k : Nat) (w : World) (g n : Nat) (d : Array α) (os : Array Obj) {cur : Array Value} {e : TypeId} (hg : w.heap[g]? = some (.cells cur e (0, 0))) :
  (sortWorldK enc k w g 0 n d os).heap[g]? = some (.cells (Sort.putCells id 0 (flatK enc k d) cur) e (0, 0)) := by
 have hlt : g < w.heap.size := (Array.getElem?_eq_some_iff.1 hg).1
 unfold sortWorldK Sort.grow Sort.putRowK Sort.putRow Sort.mapBlock Sort.ahead
 simp only
 rw [Array.getElem?_append_left (by simpa using hlt), Array.getElem?_modify, if_pos rfl, hg]; rfl
theorem sw_size {α : Type} [Inhabited α] (enc : α → List Value) (k : Nat) (w : World) (g n : Nat) (d : Array α) (os : Array Obj) : w.heap.size ≤ (sortWorldK enc k w g 0 n d os).heap.size := by
 unfold sortWorldK Sort.grow Sort.putRowK Sort.putRow Sort.mapBlock Sort.ahead
 simp
theorem sw_below {α : Type} [Inhabited α] (enc : α → List Value) (k : Nat) (w0 w : World) (g n : Nat) (d : Array α) (os : Array Obj) (hB : Below w0.heap.size w0 w) (hg : w0.heap.size ≤ g) : Below w0.heap.size w0 (sortWorldK enc k w g 0 n d os) :=
 hB.trans ⟨rfl, rfl, rfl, sw_size enc k w g n d os, fun i hi => sw_heap_ne enc k w g n d os i (Nat.lt_of_lt_of_le hi hB.size) (by omega)⟩
theorem putCells_take (F cur : Array Value) (hs : F.size ≤ cur.size) : (Sort.putCells id 0 F cur).toList.take F.size = F.toList := by
 apply List.ext_getElem?
 intro i; rw [List.getElem?_take]; by_cases hi : i < F.size; rotate_left
 · rw [if_neg hi, List.getElem?_eq_none (by simp; omega)]
 rw [if_pos hi]
 have hc : i < cur.size := by omega
 simp only [Sort.putCells, Array.getElem?_toList, Array.getElem?_mapIdx, Array.getElem?_eq_getElem hc, Option.map_some, Nat.zero_le, Nat.zero_add, hi, and_self, if_true, Nat.sub_zero, id]; rw [getElem!_pos F i hi, Array.getElem?_eq_getElem hi]
section
variable {α : Type} [Inhabited α] {d : Kd α} {enc : α → List Value}
theorem Flat.holds (F : Flat d enc) {e : Nat} {w : World} {base : Nat} {ok : Nat → Prop} {v : Value} {xs : List α} (h : d.R e w base ok v xs) (hp : 0 < xs.length) :
  ∃ g cap, v = .slice (some ⟨g, 0, none⟩) xs.length cap ∧ base ≤ g ∧ g < w.heap.size ∧ ok g ∧ HoldsK enc d.sz w g 0 xs.toArray := by
 obtain ⟨hok, ho⟩ := F.R h
 rcases ho.2 with ⟨_, h0⟩ | ⟨g, cap, cur, rfl, hb, hg, hn, hc, hs, ht⟩
 · omega
 refine ⟨g, cap, rfl, hb, (Array.getElem?_eq_some_iff.1 hg).1, hok g rfl, fun j hj => ?_⟩
 have hj' : j < xs.length * d.sz := by simpa using hj
 have hcur : j < cur.size := by
  rw [hs]
  exact Nat.lt_of_lt_of_le hj' (Nat.mul_le_mul_right _ hn)
 have hF : (flatK enc d.sz xs.toArray)[j]! = cur[j] := by
  rw [getElem!_pos _ j hj, ← Array.getElem_toList]
  have e1 : (flatK enc d.sz xs.toArray).toList[j]? = some cur[j] := by
   rw [flatK_eq enc d.sz F.len, ← ht, List.getElem?_take, if_pos hj']
   simp [hcur]
  rw [List.getElem?_eq_getElem (by simpa using hj)] at e1; exact Option.some.inj e1
 rw [hF, Nat.zero_add]
 refine ⟨?_, ?_⟩
 rotate_left
 · simp [World.frozen?, hg]
 simp [World.cell?, hg, hcur]
theorem Flat.sorted (F : Flat d enc) {e : Nat} {w : World} {base : Nat} {ok : Nat → Prop} {g cap n : Nat} {xs : List α} (h : d.R e w base ok (.slice (some ⟨g, 0, none⟩) xs.length cap) xs) (d' : Array α) (hs : d'.size = xs.length) (os : Array Obj) :
  d.R e (sortWorldK enc d.sz w g 0 n d' os) base ok (.slice (some ⟨g, 0, none⟩) xs.length cap) d'.toList := by
 obtain ⟨hok, ho⟩ := F.R h
 rcases ho.2 with ⟨hx, h0⟩ | ⟨g', cap', cur, hv, hb, hg, hn, hc, hcs, ht⟩
 · cases hx
 injection hv with h1 h2 h3
 injection h1 with h1
 injection h1 with h1
 subst h1; subst h3
 have hl : d'.toList.length = xs.length := by simpa using hs
 have hm : xs.length * d.sz ≤ cap * d.sz := Nat.mul_le_mul_right _ hn
 refine F.R' hok ?_
 rw [hl]
 refine ⟨by rw [flat_len d.sz F.len, hl], .inr ⟨g, cap, _, rfl, hb, sw_heap_eq enc d.sz w g n d' os hg, hn, hc, by simp [Sort.putCells, hcs], ?_⟩⟩
 have hfs : (flatK enc d.sz d').size = xs.length * d.sz := by simp [hs]
 rw [← hfs, putCells_take _ _ (by rw [hfs, hcs]; exact hm)]
 have := flatK_eq enc d.sz F.len d'.toList
 simpa using this
end
theorem cmp_refl : ∀ a : List UInt8, Lib.compareBytes a a = 0
 | [] => rfl
 | a :: x => by simp [Lib.compareBytes, cmp_refl x]
theorem cmp_lt : ∀ a b : List UInt8, decide (Lib.compareBytes a b < 0) = Op.bytesLess a b
 | [], [] => rfl
 | [], _ :: _ => rfl
 | _ :: _, [] => rfl
 | a :: x, b :: y => by
  unfold Lib.compareBytes Op.bytesLess
  by_cases h1 : a < b
  · simp [h1]
  by_cases h2 : b < a
  ·
   have : ¬ a = b := by rintro rfl; exact h1 h2
   simp [h1, h2, this]
  have : a = b := UInt8.toNat_inj.1 (by
   have h1' : ¬ a.toNat < b.toNat := h1
   have h2' : ¬ b.toNat < a.toNat := h2
   omega)
  subst this; simp only [h1, if_false]; rw [cmp_lt x y]
  simp
theorem less_trans : ∀ a b c : List UInt8, Op.bytesLess a b = true → Op.bytesLess b c = true → Op.bytesLess a c = true
 | _, [], _, h, _ => by cases ‹List UInt8› <;> simp [Op.bytesLess] at h
 | _, _ :: _, [], _, h => by simp [Op.bytesLess] at h
 | [], _ :: _, _ :: _, _, _ => rfl
 | a :: x, b :: y, c :: z, h1, h2 => by
  simp only [Op.bytesLess, Bool.or_eq_true, decide_eq_true_eq, Bool.and_eq_true, beq_iff_eq] at *
  rcases h1 with h1 | ⟨rfl, h1⟩
  rotate_left
  ·
   rcases h2 with h2 | ⟨rfl, h2⟩
   · exact .inl h2
   exact .inr ⟨rfl, less_trans x y z h1 h2⟩
  rcases h2 with h2 | ⟨rfl, h2⟩
  rotate_left
  · exact .inl h1
  left
  have h1' : a.toNat < b.toNat := h1
  have h2' : b.toNat < c.toNat := h2
  show a.toNat < c.toNat
  omega
theorem less_ntrans (a b c : List UInt8) (h1 : Op.bytesLess a b = false) (h2 : Op.bytesLess b c = false) : Op.bytesLess a c = false := by
 have e1 := bytesLess_total a b; have e2 := bytesLess_total b c; rw [h1] at e1; rw [h2] at e2
 rcases Bool.eq_false_or_eq_true (Op.bytesLess a c) with h | h
 rotate_left
 · exact h
 exfalso
 by_cases hab : a = b
 · subst hab; rw [h] at h2; cases h2
 by_cases hbc : b = c
 · subst hbc; rw [h] at h1; cases h1
 have hba : Op.bytesLess b a = true := by rw [← e1]; simp [hab]
 have hcb : Op.bytesLess c b = true := by rw [← e2]; simp [hbc]
 have := less_trans c b a hcb hba
 have := less_trans a c a h this
 rw [bytesLess_irrefl] at this; cases this
end Go.Proofs.YtkedidjjhhjdbaaGreatDoor.Pr
end
section
set_option linter.unusedVariables false
set_option linter.unusedSimpArgs false
namespace Go.Proofs.YtkedidjjhhjdbaaGreatDoor.Pr
open Go.RowKit Go.Proofs.YtkedidjjhhjdbaaGreatDoorW.PrintWords Go.Proofs.YtkedidjjhhjdbaaGreatDoorW.PrintLast Go.Proofs.YtkedidjjhhjdbaaGreatDoorW.PrintMore
attribute [local go_sem high] eqA33
def cmpMat (x y : S33) : Int := if x.f1.data.toList = y.f1.data.toList then (if x.f0 = y.f0 then Lib.compareBytes x.f2.data.toList y.f2.data.toList else if x.f0 < y.f0 then -1 else 1) else Lib.compareBytes x.f1.data.toList y.f1.data.toList
theorem toList_data54 (a : ByteArray) : a.toList = a.data.toList := by rw [ByteArray.toList_eq]
set_option maxHeartbeats 4000000 in
set_option maxRecDepth 100000 in
theorem attr_order.walk (a0 : Int) (a1 a2 : ByteArray) (b0 : Int) (b1 b2 : ByteArray) (w : World) :
  Calls Tryz.prog 65 #[.agg #[.int .i64 a0, .string a1, .string a2], .agg #[.int .i64 b0, .string b1, .string b2]] w fun e w' => e = .returned (.int .i64 (cmpMat ⟨a0, a1, a2⟩ ⟨b0, b1, b2⟩)) ∧ ∃ q os', w' = Sort.grow (w.drewN q) os' := by
 have hu54 := Tryz.underlying33
 unfold cmpMat
 simp only
 have hcon := fun (a b : ByteArray) W' => Tryz.strings_Compare a b W'
 by_cases h0 : a1.data.toList = b1.data.toList; rotate_left
 ·
  rw [if_neg h0]
  have k0 : (a1.toList == b1.toList) = false := by rw [toList_data54, toList_data54]; exact beq_eq_false_iff_ne.mpr h0
  have k0' : (a1.toList != b1.toList) = true := by rw [toList_data54, toList_data54]; exact bne_iff_ne.mpr h0
  have hc := hcon a1 b1
  generalize Lib.compareBytes a1.data.toList b1.data.toList = r at hc ⊢
  clear h0 hcon
  go_enter Tryz.func65, Tryz.ntmps65
  go_wp2_with (go_at_call 96; refine (hc _).mono ?_; rintro e w' ⟨rfl, rfl⟩)
  go_ret
  exact ⟨rfl, 0, _, by rw [Sort.alloc_eq_grow, Sort.alloc_eq_grow, Sort.grow_grow]; rfl⟩
 rw [if_pos h0]
 have k0 : (a1.toList == b1.toList) = true := by rw [toList_data54, toList_data54]; exact beq_iff_eq.mpr h0
 have k0' : (a1.toList != b1.toList) = false := by rw [toList_data54, toList_data54]; exact bne_eq_false_iff_eq.mpr h0
 by_cases h1 : a0 = b0; rotate_left
 ·
  rw [if_neg h1]
  have k1 : (a0 == b0) = false := beq_eq_false_iff_ne.mpr h1
  have k1' : (a0 != b0) = true := bne_iff_ne.mpr h1
  by_cases h2 : a0 < b0
  ·
   rw [if_pos h2]
   have k2 : decide (a0 < b0) = true := decide_eq_true h2
   clear h0 h1 h2 hcon
   go_enter Tryz.func65, Tryz.ntmps65
   go_wp2; go_ret
   exact ⟨rfl, 0, _, by rw [Sort.alloc_eq_grow, Sort.alloc_eq_grow, Sort.grow_grow]; rfl⟩
  rw [if_neg h2]
  have k2 : decide (a0 < b0) = false := decide_eq_false h2
  clear h0 h1 h2 hcon
  go_enter Tryz.func65, Tryz.ntmps65
  go_wp2; go_ret
  exact ⟨rfl, 0, _, by rw [Sort.alloc_eq_grow, Sort.alloc_eq_grow, Sort.grow_grow]; rfl⟩
 rw [if_pos h1]
 have k1 : (a0 == b0) = true := beq_iff_eq.mpr h1
 have k1' : (a0 != b0) = false := bne_eq_false_iff_eq.mpr h1
 by_cases h2 : a2.data.toList = b2.data.toList
 ·
  have k2 : (a2.toList == b2.toList) = true := by rw [toList_data54, toList_data54]; exact beq_iff_eq.mpr h2
  have hr : Lib.compareBytes a2.data.toList b2.data.toList = 0 := by rw [h2]; exact cmp_refl _
  rw [hr]; clear h0 h1 h2 hr hcon
  go_enter Tryz.func65, Tryz.ntmps65
  go_wp2; go_ret
  exact ⟨rfl, 0, _, by rw [Sort.alloc_eq_grow, Sort.alloc_eq_grow, Sort.grow_grow]; rfl⟩
 have k2 : (a2.toList == b2.toList) = false := by rw [toList_data54, toList_data54]; exact beq_eq_false_iff_ne.mpr h2
 have hc := hcon a2 b2
 generalize Lib.compareBytes a2.data.toList b2.data.toList = r at hc ⊢
 clear h0 h1 h2 hcon
 go_enter Tryz.func65, Tryz.ntmps65
 go_wp2_with (go_at_call 96; refine (hc _).mono ?_; rintro e w' ⟨rfl, rfl⟩)
 go_ret
 exact ⟨rfl, 0, _, by rw [Sort.alloc_eq_grow, Sort.alloc_eq_grow, Sort.grow_grow]; rfl⟩
end Go.Proofs.YtkedidjjhhjdbaaGreatDoor.Pr
end
section
namespace Go.Proofs
open Go.Shelf
def Tryz.laySortM_ren : Go.Shelf.Ren := ⟨fun | 6 => 64 | 15 => 95 | 14 => 94 | 28 => 127 | 29 => 128 | 20 => 119 | 21 => 120 | 22 => 121 | 23 => 122 | 24 => 123 | 25 => 124 | 26 => 125 | 27 => 126 | 46 => 146 | 47 => 147 | 48 => 148 | 49 => 149 | 50 => 150 | 57 => 166 | n => n, fun | 22 => 28 | 24 => 33 | 25 => 100 | 3 => 3 | 39 => 124 | 0 => 0 | 53 => 149 | 55 => 151 | 4 => 4 | 46 => 142 | 45 => 141 | 50 => 146 | 5 => 5 | 9 => 9 | 66 => 168 | 70 => 172 | 76 => 196 | 77 => 197 | n => n, fun | n => n⟩
theorem Tryz.laySortM : Go.Proofs.SlLaysF0.n6 Tryz.prog Tryz.laySortM_ren := {
 mixed := by kernel_rfl
 f6 := ⟨Tryz.f64.name, by decide, Tryz.func64.trans (congrArg some (by kernel_rfl))⟩
 f14 := ⟨Tryz.f94.name, by decide, Tryz.func94.trans (congrArg some (by kernel_rfl))⟩
 f15 := Tryz.func95.trans (congrArg some (by kernel_rfl))
 f20 := ⟨Tryz.f119.name, by decide, Tryz.func119.trans (congrArg some (by kernel_rfl))⟩
 f21 := ⟨Tryz.f120.name, by decide, Tryz.func120.trans (congrArg some (by kernel_rfl))⟩
 f22 := ⟨Tryz.f121.name, by decide, Tryz.func121.trans (congrArg some (by kernel_rfl))⟩
 f23 := ⟨Tryz.f122.name, by decide, Tryz.func122.trans (congrArg some (by kernel_rfl))⟩
 f24 := ⟨Tryz.f123.name, by decide, Tryz.func123.trans (congrArg some (by kernel_rfl))⟩
 f25 := ⟨Tryz.f124.name, by decide, Tryz.func124.trans (congrArg some (by kernel_rfl))⟩
 f26 := ⟨Tryz.f125.name, by decide, Tryz.func125.trans (congrArg some (by kernel_rfl))⟩
 f27 := ⟨Tryz.f126.name, by decide, Tryz.func126.trans (congrArg some (by kernel_rfl))⟩
 f28 := Tryz.func127.trans (congrArg some (by kernel_rfl))
 f29 := Tryz.func128.trans (congrArg some (by kernel_rfl))
 f46 := ⟨Tryz.f146.name, by decide, Tryz.func146.trans (congrArg some (by kernel_rfl))⟩
 f47 := Tryz.func147.trans (congrArg some (by kernel_rfl))
 f48 := Tryz.func148.trans (congrArg some (by kernel_rfl))
 f49 := ⟨Tryz.f149.name, by decide, Tryz.func149.trans (congrArg some (by kernel_rfl))⟩
 f50 := ⟨Tryz.f150.name, by decide, Tryz.func150.trans (congrArg some (by kernel_rfl))⟩
 f57 := ⟨Tryz.f166.name, by decide, Tryz.func166.trans (congrArg some (by kernel_rfl))⟩
 t0 := Tryz.underlying0
 a0 := Tryz.isAgg0
 z0 := Tryz.sizeOf0
 v0 := Tryz.zeroValue0
 t3 := Tryz.underlying3
 a3 := Tryz.isAgg3
 z3 := Tryz.sizeOf3
 v3 := Tryz.zeroValue3
 t4 := Tryz.underlying4
 a4 := Tryz.isAgg4
 z4 := Tryz.sizeOf4
 v4 := Tryz.zeroValue4
 t5 := Tryz.underlying5
 a5 := Tryz.isAgg5
 z5 := Tryz.sizeOf5
 v5 := Tryz.zeroValue5
 t9 := Tryz.underlying9
 a9 := Tryz.isAgg9
 z9 := Tryz.sizeOf9
 v9 := Tryz.zeroValue9
 t22 := Tryz.underlying28
 a22 := Tryz.isAgg28
 z22 := Tryz.sizeOf28
 v22 := Tryz.zeroValue28
 t25 := Tryz.underlying100
 a25 := Tryz.isAgg100
 z25 := Tryz.sizeOf100
 v25 := Tryz.zeroValue100
 t39 := Tryz.underlying124
 a39 := Tryz.isAgg124
 z39 := Tryz.sizeOf124
 v39 := Tryz.zeroValue124
 t45 := Tryz.underlying141
 a45 := Tryz.isAgg141
 z45 := Tryz.sizeOf141
 v45 := Tryz.zeroValue141
 t46 := Tryz.underlying142
 a46 := Tryz.isAgg142
 z46 := Tryz.sizeOf142
 v46 := Tryz.zeroValue142
 t50 := Tryz.underlying146
 a50 := Tryz.isAgg146
 z50 := Tryz.sizeOf146
 v50 := Tryz.zeroValue146
 t53 := Tryz.underlying149
 a53 := Tryz.isAgg149
 z53 := Tryz.sizeOf149
 v53 := Tryz.zeroValue149
 t55 := Tryz.underlying151
 a55 := Tryz.isAgg151
 z55 := Tryz.sizeOf151
 v55 := Tryz.zeroValue151
 t66 := Tryz.underlying168
 a66 := Tryz.isAgg168
 z66 := Tryz.sizeOf168
 v66 := Tryz.zeroValue168
 t70 := Tryz.underlying172
 a70 := Tryz.isAgg172
 z70 := Tryz.sizeOf172
 v70 := Tryz.zeroValue172
 t76 := Tryz.underlying196
 a76 := Tryz.isAgg196
 z76 := Tryz.sizeOf196
 v76 := Tryz.zeroValue196
 t77 := Tryz.underlying197
 a77 := Tryz.isAgg197
 z77 := Tryz.sizeOf197
 v77 := Tryz.zeroValue197 }
end Go.Proofs
end
section
set_option linter.unusedVariables false
set_option linter.unusedSimpArgs false
namespace Go.Proofs.YtkedidjjhhjdbaaGreatDoor.Pr
open Go.RowKit Go.Proofs.YtkedidjjhhjdbaaGreatDoorW.PrintWords Go.Proofs.YtkedidjjhhjdbaaGreatDoorW.PrintLast Go.Proofs.YtkedidjjhhjdbaaGreatDoorW.PrintMore
open Go.Sort (flatK HoldsK putRowK ahead grow)
theorem cmpMat_lt (x y : S33) : ltOf cmpMat x y = true ↔ (Op.bytesLess x.f1.data.toList y.f1.data.toList = true ∨ (x.f1.data.toList = y.f1.data.toList ∧ (x.f0 < y.f0 ∨ (x.f0 = y.f0 ∧ Op.bytesLess x.f2.data.toList y.f2.data.toList = true)))) := by
 unfold ltOf cmpMat
 by_cases h0 : x.f1.data.toList = y.f1.data.toList; rotate_left
 · rw [if_neg h0, cmp_lt]; simp [h0]
 rw [if_pos h0, h0, bytesLess_irrefl]; by_cases h1 : x.f0 = y.f0
 · rw [if_pos h1, cmp_lt]; simp [h1]
 rw [if_neg h1]; by_cases h2 : x.f0 < y.f0
 · rw [if_pos h2]; simp [h2]
 rw [if_neg h2]; simp [h1, h2]
theorem swoMat : Sort.SWO (ltOf cmpMat) where
 irrefl x := by
  rcases hb : ltOf cmpMat x x with _ | _
  · rfl
  rcases (cmpMat_lt x x).1 hb with h | ⟨_, h | ⟨_, h⟩⟩
  · rw [bytesLess_irrefl] at h; cases h
  · omega
  rw [bytesLess_irrefl] at h; cases h
 trans x y z h1 h2 := by
  rw [cmpMat_lt] at *
  rcases h1 with h1 | ⟨e1, h1⟩ <;> rcases h2 with h2 | ⟨e2, h2⟩
  · exact .inl (less_trans _ _ _ h1 h2)
  · rw [← e2]; exact .inl h1
  · rw [e1]; exact .inl h2
  refine .inr ⟨e1.trans e2, ?_⟩
  rcases h1 with h1 | ⟨f1, h1⟩ <;> rcases h2 with h2 | ⟨f2, h2⟩
  · exact .inl (by omega)
  · exact .inl (by omega)
  · exact .inl (by omega)
  exact .inr ⟨f1.trans f2, less_trans _ _ _ h1 h2⟩
 ntrans x y z h1 h2 := by
  rcases hb : ltOf cmpMat x z with _ | _
  · rfl
  exfalso
  have n1 : ¬ _ := fun h => Bool.noConfusion (h1.symm.trans ((cmpMat_lt x y).2 h))
  have n2 : ¬ _ := fun h => Bool.noConfusion (h2.symm.trans ((cmpMat_lt y z).2 h))
  have t1 := bytesLess_total x.f1.data.toList y.f1.data.toList; have t2 := bytesLess_total y.f1.data.toList z.f1.data.toList; have u1 := bytesLess_total x.f2.data.toList y.f2.data.toList; have u2 := bytesLess_total y.f2.data.toList z.f2.data.toList
  have a1 : Op.bytesLess x.f1.data.toList y.f1.data.toList = false := by
   rcases h : Op.bytesLess x.f1.data.toList y.f1.data.toList with _ | _
   · rfl
   exact (n1 (.inl h)).elim
  have a2 : Op.bytesLess y.f1.data.toList z.f1.data.toList = false := by
   rcases h : Op.bytesLess y.f1.data.toList z.f1.data.toList with _ | _
   · rfl
   exact (n2 (.inl h)).elim
  have a3 := less_ntrans _ _ _ a1 a2
  rcases (cmpMat_lt x z).1 hb with h | ⟨e, h⟩
  · rw [h] at a3; cases a3
  have e1 : x.f1.data.toList = y.f1.data.toList := by
   rcases Decidable.em (x.f1.data.toList = y.f1.data.toList) with e1 | e1
   · exact e1
   rw [a1, beq_eq_false_iff_ne.2 e1] at t1; rw [e] at t1; rw [a2] at t2
   have : (y.f1.data.toList == z.f1.data.toList) = false := beq_eq_false_iff_ne.2 (fun e' => e1 (e.trans e'.symm))
   rw [← t1] at a2; cases a2
  have e2 : y.f1.data.toList = z.f1.data.toList := e1.symm.trans e
  have o1 : ¬ x.f0 < y.f0 := fun h => (n1 (.inr ⟨e1, .inl h⟩)).elim
  have o2 : ¬ y.f0 < z.f0 := fun h => (n2 (.inr ⟨e2, .inl h⟩)).elim
  rcases h with h | ⟨eo, h⟩
  · omega
  have p1 : x.f0 = y.f0 := by omega
  have p2 : y.f0 = z.f0 := by omega
  have b1 : Op.bytesLess x.f2.data.toList y.f2.data.toList = false := by
   rcases h' : Op.bytesLess x.f2.data.toList y.f2.data.toList with _ | _
   · rfl
   exact (n1 (.inr ⟨e1, .inr ⟨p1, h'⟩⟩)).elim
  have b2 : Op.bytesLess y.f2.data.toList z.f2.data.toList = false := by
   rcases h' : Op.bytesLess y.f2.data.toList z.f2.data.toList with _ | _
   · rfl
   exact (n2 (.inr ⟨e2, .inr ⟨p2, h'⟩⟩)).elim
  have := less_ntrans _ _ _ b1 b2
  rw [h] at this; cases this
theorem cmpLays50 (blk off size : Nat) (w : World) : CmpLays Tryz.prog 65 #[] enc33 3 cmpMat blk off size w := fun _ _ _ _ x y => attr_order.walk x.f0 x.f1 x.f2 y.f0 y.f1 y.f2 _
def sorted33 (l : List S33) : List S33 := (Sort.pdq (ltOf cmpMat) l.toArray 0 l.toArray.size (Lib.bitLen l.toArray.size) true true).toList
theorem sorted33_perm (l : List S33) : (sorted33 l).Perm l ∧ (sorted33 l).length = l.length ∧ Sort.SortedIn (ltOf cmpMat) 0 l.length (sorted33 l).toArray := by
 have h := Sort.pdq_sorts (ltOf cmpMat) swoMat l.toArray 0 l.toArray.size (Lib.bitLen l.toArray.size) true true (Nat.zero_le _) (Nat.le_refl _) (Or.inl rfl)
 unfold sorted33
 generalize Sort.pdq (ltOf cmpMat) l.toArray 0 l.toArray.size (Lib.bitLen l.toArray.size) true true = X at h
 obtain ⟨⟨h1, _, h3⟩, h4⟩ := h
 have e1 : X.extract 0 l.toArray.size = X := by rw [← h1]; simp
 have e2 : l.toArray.extract 0 l.toArray.size = l.toArray := by simp
 rw [e1, e2] at h3
 exact ⟨by simpa using h3, by simpa using h1, by simpa using h4⟩
theorem sorted33_nil : sorted33 [] = [] := by
 have := (sorted33_perm []).2.1
 exact List.eq_nil_of_length_eq_zero this
set_option maxHeartbeats 1000000 in
theorem slices_SortFunc_M.calls (P0_ : Nat → Prop) (u9000_ : Value) (l0 : List S33) (w0 w : World) (hB : Below w0.heap.size w0 w) (ho0 : Kd.R k33 33 w w0.heap.size P0_ u9000_ l0) (hl : l0.length < 4611686018427387904) :
  Calls Tryz.prog 64 #[u9000_, .func (.func 65) #[] #[]] w fun e w' => e = .returned (.tuple #[]) ∧ Kd.R k33 33 w' w0.heap.size P0_ u9000_ (sorted33 l0) ∧ Below w0.heap.size w0 w' := by
 rcases Nat.eq_zero_or_pos l0.length with h0 | h0
 ·
  have hn := List.eq_nil_of_length_eq_zero h0; subst hn
  obtain ⟨A, c, rfl⟩ := Kd.R_slice ho0
  have hcon := AnyF.slices_SortFunc_none Tryz.laySortM A c (.func (.func 65) #[] #[]) w
  change Calls Tryz.prog 64 _ _ _ at hcon
  refine hcon.mono fun e w' ⟨he, hw⟩ => ?_
  subst hw
  exact ⟨he, by rw [sorted33_nil]; exact ho0, hB⟩
 obtain ⟨g, cap, rfl, hbase, hlt, hok, hH⟩ := flat33.holds ho0 h0
 have eg : ∀ args w, (callFunc 65 args).run Tryz.prog w = .ok (.enter 65 args) w := enters_of Tryz.func65 (by kernel_rfl) rfl
 have hcon := AnyQ.slices_SortFunc_eq Tryz.laySortM 3 Tryz.isAgg33 Tryz.sizeOf33 enc33 (fun _ => rfl) (fun x => flat33.one x) cmpMat swoMat 65 #[] g 0 cap l0.toArray w eg (cmpLays50 g 0 _ w) hH hlt (by simpa using hl)
 change Calls Tryz.prog 64 _ _ _ at hcon
 have hsz : l0.toArray.size = l0.length := by simp
 refine Calls.mono (by rw [hsz] at hcon; exact hcon) ?_
 rintro e w' ⟨he, n, os, rfl⟩
 refine ⟨he, ?_, sw_below _ _ w0 w g n _ os hB hbase⟩
 have hR := flat33.sorted (n := n) ho0 (Sort.pdq (ltOf cmpMat) l0.toArray 0 l0.toArray.size (Lib.bitLen l0.toArray.size) true true) (by have := (sorted33_perm l0).2.1; unfold sorted33 at this; simpa using this) os
 rw [hsz] at hR
 unfold sorted33
 rw [hsz]; exact hR
end Go.Proofs.YtkedidjjhhjdbaaGreatDoor.Pr
end
section
set_option linter.unusedVariables false
set_option linter.unusedSimpArgs false
namespace Go.Proofs.YtkedidjjhhjdbaaGreatDoor.Pr
open Go.RowKit Go.Proofs.YtkedidjjhhjdbaaGreatDoorW.PrintWords Go.Proofs.YtkedidjjhhjdbaaGreatDoorW.PrintLast Go.Proofs.YtkedidjjhhjdbaaGreatDoorW.PrintMore
attribute [local go_sem high] eqA33
def eqM (x y : S33) : Bool := x.f0 == y.f0 && (x.f1.toList == y.f1.toList && (x.f2.toList == y.f2.toList))
def ddFrom : S33 → List S33 → List S33
  | _, [] => []
  | p, x :: l => if eqM x p then ddFrom x l else x :: ddFrom x l
def dd : List S33 → List S33
  | [] => []
  | x :: l => x :: ddFrom x l
theorem drop_at54 (l : List S33) (i : Nat) (h : i < l.length) : l.drop i = rd_T33 l (i : Int) :: l.drop (i + 1) := by
 rw [List.drop_eq_getElem_cons h]; simp [rd_T33, h]
theorem take_at54 (l : List S33) (i : Nat) (h : i < l.length) : l.take (i + 1) = l.take i ++ [rd_T33 l (i : Int)] := by
 rw [List.take_succ_eq_append_getElem h]; simp [rd_T33, h]
section
variable {w : World} {base g n cap : Nat} {ok : Nat → Prop} {xs : List S33}
theorem cells54 (h : Kd.R k33 33 w base ok (.slice (some ⟨g, 0, none⟩) n cap) xs) (i : Nat) (hi : i < n) :
  (w.cell? ⟨g, i * 3, none⟩ = some (.int .i64 (rd_T33 xs (i : Int)).f0) ∧ w.cell? ⟨g, i * 3 + 1, none⟩ = some (.string (rd_T33 xs (i : Int)).f1) ∧ w.cell? ⟨g, i * 3 + 2, none⟩ = some (.string (rd_T33 xs (i : Int)).f2)) ∧
  w.frozen? ⟨g, i * 3, none⟩ = false ∧ w.frozen? ⟨g, i * 3 + 1, none⟩ = false ∧ w.frozen? ⟨g, i * 3 + 2, none⟩ = false := by
 obtain ⟨c, hcl, hM, hcc, hfr⟩ := Kd.R_elem h z33 (i : Int) (by omega) (by omega)
 obtain rfl := k33_openM hM
 exact ⟨⟨hcc 0 _ rfl, hcc 1 _ rfl, hcc 2 _ rfl⟩, hfr 0, hfr 1, hfr 2⟩
theorem put54 (h : Kd.R k33 33 w base ok (.slice (some ⟨g, 0, none⟩) n cap) xs) (i : Nat) (hi : i < n) (x : S33) :
  Kd.R k33 33 (((w.setCell ⟨g, i * 3, none⟩ (.int .i64 x.f0)).setCell ⟨g, i * 3 + 1, none⟩ (.string x.f1)).setCell ⟨g, i * 3 + 2, none⟩ (.string x.f2)) base ok (.slice (some ⟨g, 0, none⟩) n cap) (xs.set i x) ∧
  w.grownBy (((w.setCell ⟨g, i * 3, none⟩ (.int .i64 x.f0)).setCell ⟨g, i * 3 + 1, none⟩ (.string x.f1)).setCell ⟨g, i * 3 + 2, none⟩ (.string x.f2)) (some g) := by
 obtain ⟨c, hcl, hM, hcc, hfr⟩ := Kd.R_elem h z33 (i : Int) (by omega) (by omega)
 exact Kd.R_seg h (i : Int) (by omega) (by omega) (seg := [.int .i64 x.f0, .string x.f1, .string x.f2]) (j := 0) hcl hcc (show 3 ≤ 3 from by decide) (x' := x) (okp := fun k => ok k ∧ k ≠ g)
  (by obtain rfl := k33_openM hM; exact k33_mkM _ _ _ x) (fun _ hk => hk)
theorem clear54 (h : Kd.R k33 33 w base ok (.slice (some ⟨g, 0, none⟩) n cap) xs) (k c : Nat) (hk : k < n) :
  ∃ w', (∀ ty, (Builtin.clear_ #[28] ty #[.slice (some ⟨g, k * 3, none⟩) (n - k) c]).run Tryz.prog w = .ok (.tuple #[]) w') ∧ Kd.R k33 33 w' base ok (.slice (some ⟨g, 0, none⟩) k cap) (xs.take k) ∧ w.grownBy w' (some g) := by
 have h' := Kd.R_take h (m := k) (by have := (Kd.R_reads' h).1; omega)
 obtain ⟨hok, ho⟩ := flat33.R h
 obtain ⟨hok', ho'⟩ := flat33.R h'
 rcases ho.2 with ⟨hv, _⟩ | ⟨g1, cap1, cur, hv, hb, hh, hnc, hcm, hcs, ht⟩
 · cases hv
 injection hv with h1 h2 h3
 injection h1 with h1
 injection h1 with h1
 subst h1; subst h2; subst h3
 have hd : k33.sz = 3 := rfl
 rw [hd] at hcs
 have hz : ∀ w, (zeroValue 33).run Tryz.prog w = .ok (.agg #[.int .i64 0, .string ⟨#[]⟩, .string ⟨#[]⟩]) w := fun w => by kernel_rfl
 have hce : (Value.agg #[.int .i64 0, .string ⟨#[]⟩, .string ⟨#[]⟩]).cells = #[.int .i64 0, .string ⟨#[]⟩, .string ⟨#[]⟩] := by kernel_rfl
 have hlen : (Builtin.zeroCells #[.int .i64 0, .string ⟨#[]⟩, .string ⟨#[]⟩] (xs.length - k)).toList.length = (xs.length - k) * 3 := by simp [Builtin.zeroCells]
 have hone : ∀ v ∈ (Builtin.zeroCells #[.int .i64 0, .string ⟨#[]⟩, .string ⟨#[]⟩] (xs.length - k)).toList, v.oneCell' = true := by
  intro v hv
  simp only [Builtin.zeroCells, Array.toList_map, List.mem_map] at hv
  obtain ⟨i, _, rfl⟩ := hv
  have hi : i % 3 < 3 := Nat.mod_lt _ (by decide)
  have : i % 3 = 0 ∨ i % 3 = 1 ∨ i % 3 = 2 := by omega
  rcases this with e | e | e <;> simp [e, Value.oneCell']
 generalize hZ : (Builtin.zeroCells #[.int .i64 0, .string ⟨#[]⟩, .string ⟨#[]⟩] (xs.length - k)).toList = Z at hlen hone
 have hfit : k * 3 + Z.length ≤ cur.size := by rw [hlen, hcs, ← Nat.add_mul]; exact Nat.mul_le_mul_right 3 (by omega)
 have hst := run_storeCells_cells (P := Tryz.prog) g (k * 3) Z 0 w (fun j hj => by rw [cell_of_row w g _ cur 33 (0, 0) hh]; simp; omega) (fun j _ => blk_frozen hh _) hone
 simp only [Nat.add_zero] at hst
 obtain ⟨m, hm⟩ : ∃ m, xs.length - k = m + 1 := ⟨xs.length - k - 1, by omega⟩
 refine ⟨w.setCells g (k * 3) Z, fun ty => ?_, ?_, ?_⟩
 ·
  rw [hm] at hZ ⊢
  simp [Builtin.clear_, run_underlying Tryz.underlying28, hz, hce, hZ, hst]
 rotate_left
 ·
  obtain ⟨s1, s2, s3, s4⟩ := setCells_same g Z (k * 3) w
  exact ⟨s1, s2, s3, by rw [s4]; exact Nat.le_refl _, fun q _ hq => setCells_far Z _ q (fun he => hq (by rw [he]))⟩
 obtain ⟨cur', h3, h4, h5⟩ := setCells_row Z (k * 3) w cur hh hfit
 refine flat33.R' hok' ⟨ho'.1, .inr ⟨g, cap, cur', by simp; omega, hb, h3, by simp; omega, hcm, by rw [h4, hcs, hd], ?_⟩⟩
 rcases ho'.2 with ⟨hv, _⟩ | ⟨g1, cap1, cur1, hv, _, hh1, _, _, _, ht1⟩
 · cases hv
 injection hv with h1 h2 h3
 injection h1 with h1
 injection h1 with h1
 subst h1; rw [hh] at hh1
 injection hh1 with hh1
 injection hh1 with hh1
 subst hh1; rw [← ht1, hd]
 have hk' : (xs.take k).length = k := by simp; omega
 rw [hk', h5, List.append_assoc, List.take_append_of_le_length (by simp; omega), List.take_take, Nat.min_self]
end
end Go.Proofs.YtkedidjjhhjdbaaGreatDoor.Pr
end
section
set_option linter.unusedVariables false
set_option linter.unusedSimpArgs false
namespace Go.Proofs.YtkedidjjhhjdbaaGreatDoor.Pr
open Go.RowKit Go.Proofs.YtkedidjjhhjdbaaGreatDoorW.PrintWords Go.Proofs.YtkedidjjhhjdbaaGreatDoorW.PrintLast Go.Proofs.YtkedidjjhhjdbaaGreatDoorW.PrintMore
theorem dd_short : ∀ l : List S33, l.length < 2 → dd l = l
 | [], _ => rfl
 | [x], _ => rfl
 | _ :: _ :: l, h => absurd h (by simp)
theorem rd_eq54 {d l : List S33} {i : Nat} (h : d[i]? = l[i]?) : rd_T33 d (i : Int) = rd_T33 l (i : Int) := by
 simp [rd_T33, List.getD_eq_getElem?_getD, h]
theorem drop_step54 {d l : List S33} {m kk : Nat} (u : S33) (h : d.drop m = l.drop m) (hk : kk ≤ m) : (d.set kk u).drop (m + 1) = l.drop (m + 1) := by
 rw [List.drop_set_of_lt (by omega)]
 have := congrArg (List.drop 1) h
 simp only [List.drop_drop] at this
 exact this
theorem below_own {w0 w w' : World} {g : Nat} (h : Below w0.heap.size w0 w) (hg : w.grownBy w' (some g)) (hb : w0.heap.size ≤ g) : Below w0.heap.size w0 w' :=
 h.grown hg h.size (fun k hk => by cases hk; exact hb)
theorem dd_start (l : List S33) (h : 1 ≤ l.length) : l.take 1 ++ ddFrom (rd_T33 l ((1 - 1 : Nat) : Int)) (l.drop 1) = dd l := by
 cases l with
 | nil => simp at h
 | cons x l => rfl
theorem dd_next (l : List S33) (k : Nat) (hk : k < l.length) (m : List S33) (p : S33) : m ++ ddFrom p (l.drop k) = if eqM (rd_T33 l (k : Int)) p then m ++ ddFrom (rd_T33 l (k : Int)) (l.drop (k + 1)) else (m ++ [rd_T33 l (k : Int)]) ++ ddFrom (rd_T33 l (k : Int)) (l.drop (k + 1)) := by
 rw [drop_at54 l k hk, ddFrom]
 split <;> simp
theorem eqM_run {x y : S33} {b : Bool} (h : eqM x y = b) : ∀ (d : Nat) (W : World), (Op.equalIn (d + 2) 33 (.agg #[.int .i64 x.f0, .string x.f1, .string x.f2]) (.agg #[.int .i64 y.f0, .string y.f1, .string y.f2])).run Tryz.prog W = .ok b W :=
 fun d W => by rw [eqA33]; rw [← h]; rfl
set_option maxHeartbeats 4000000 in
set_option maxRecDepth 100000 in
theorem slices_Compact_M.calls (P0_ : Nat → Prop) (u9000_ : Value) (l0 : List S33) (w0 w : World) (hB : Below w0.heap.size w0 w) (ho0 : Kd.R k33 33 w w0.heap.size P0_ u9000_ l0) (hl : l0.length < 4611686018427387904) :
  Calls Tryz.prog 66 #[u9000_] w fun e w' => ∃ v0_ : Value, e = .returned v0_ ∧ Kd.R k33 33 w' w0.heap.size P0_ v0_ (dd l0) ∧ Below w0.heap.size w0 w' := by
 have hu54 := Tryz.underlying33; have hu48 := Tryz.underlying28; by_cases h2 : l0.length < 2
 ·
  obtain ⟨A, c, rfl⟩ := Kd.R_slice ho0
  have HO := Aside0.mk ho0; have HB := Aside0.mk hB; clear ho0 hB
  go_enter Tryz.func66, Tryz.ntmps66
  go_wp2; go_ret
  exact ⟨_, rfl, by rw [dd_short l0 h2]; exact HO.out, HB.out⟩
 obtain ⟨g, cap, rfl, hbg, hgl, _⟩ := Kd.R_form ho0 (by omega)
 have hcap := (Kd.R_reads' ho0).2.1; have HO := Aside0.mk ho0; have HB := Aside0.mk hB; have HG := Aside0.mk hbg; clear ho0 hB hbg hgl
 go_enter Tryz.func66, Tryz.ntmps66
 go_wp2
 go_loopg [3] l0.length (fun gk s3 wr => ∃ k q : Nat, 1 ≤ k ∧ k ≤ l0.length ∧ l0.length - k ≤ gk ∧ s3 = .int .i64 k ∧ wr = w.drewN q ∧ Aside0 (l0.take k ++ ddFrom (rd_T33 l0 ((k - 1 : Nat) : Int)) (l0.drop k) = dd l0))
 case atStart => exact ⟨1, 0, Nat.le_refl _, by omega, by omega, rfl, rfl, ⟨dd_start l0 (by omega)⟩⟩
 case round =>
  obtain ⟨k, q, hk1, hk, hg, rfl, rfl, HA⟩ := hrel
  by_cases hlt : k < l0.length; rotate_left
  ·
   have : k = l0.length := by omega
   subst this; go_wp2; go_ret
   exact ⟨_, rfl, by have := HA.out; simp [ddFrom] at this; rw [← this]; exact Kd.R_drewN HO.out _, pw_below_drewN HB.out _⟩
  obtain ⟨⟨a0, a1, a2⟩, f0, f1, f2⟩ := cells54 HO.out k hlt
  obtain ⟨⟨b0, b1, b2⟩, -, -, -⟩ := cells54 HO.out (k - 1) (by omega)
  have HE := HA.out; rw [dd_next l0 k hlt] at HE; have HX := Aside0.mk (show rd_T33 l0 ((k + 1 - 1 : Nat) : Int) = rd_T33 l0 (k : Int) from rfl)
  generalize hx : rd_T33 l0 (k : Int) = x at a0 a1 a2 HE HX
  generalize hy : rd_T33 l0 ((k - 1 : Nat) : Int) = y at b0 b1 b2 HE
  have HX0 := Aside0.mk hx; clear hx hy HA f0 f1 f2
  cases hdup : eqM x y with
  | true =>
   have he := eqM_run hdup; rw [hdup, if_pos rfl] at HE; have HE' := Aside0.mk HE; clear hdup HE
   go_wp2_with fail
   go_quiet (fail)
   go_wp2; have HS := Aside0.mk (And.intro (Kd.R_drewN HO.out (q + nq)) (pw_below_drewN HB.out (q + nq))); clear a0 a1 a2 b0 b1 b2 he
   go_loopg [3, 5] l0.length (fun gk s3 s5 wr => ∃ (kk k2 : Nat) (d : List S33), s3 = .int .i64 kk ∧ s5 = .int .i64 k2 ∧ 1 ≤ k2 ∧ k + k2 ≤ l0.length ∧ l0.length - (k + k2) ≤ gk ∧ k ≤ kk ∧ kk + 1 ≤ k + k2 ∧ Aside0 (Kd.R k33 33 wr w0.heap.size P0_ (.slice (some ⟨g, 0, none⟩) l0.length cap) d) ∧ Aside0 (Below w0.heap.size w0 wr) ∧ Aside0 (d.length = l0.length ∧ d.drop (k + k2 - 1) = l0.drop (k + k2 - 1) ∧ d.take kk ++ ddFrom (rd_T33 l0 ((k + k2 - 1 : Nat) : Int)) (l0.drop (k + k2)) = dd l0))
   case atStart => exact ⟨k, 1, l0, rfl, rfl, Nat.le_refl _, by omega, by omega, Nat.le_refl _, Nat.le_refl _, ⟨HS.out.1⟩, ⟨HS.out.2⟩, ⟨rfl, rfl, by rw [HX.out]; exact HE'.out⟩⟩
   case round =>
    obtain ⟨kk, k2, d, rfl, rfl, h1, hle, hg2, hkk, hkk2, HR, HBB, HD⟩ := hrel
    by_cases hlt2 : k + k2 < l0.length; rotate_left
    ·
     have hend : k + k2 = l0.length := by omega
     obtain ⟨wz, hz, hRz, hgz⟩ := clear54 HR.out kk (cap - kk) (by omega)
     have HZ := Aside0.mk (And.intro hRz hgz); clear hRz hgz
     have HDD := Aside0.mk (show d.take kk = dd l0 from by have := HD.out.2.2; rw [hend, List.drop_of_length_le (Nat.le_refl _), ddFrom, List.append_nil] at this; exact this)
     go_wp2; go_ret
     exact ⟨_, rfl, by rw [← HDD.out]; exact HZ.out.1, below_own HBB.out HZ.out.2 HG.out⟩
    obtain ⟨⟨a0, a1, a2⟩, -, -, -⟩ := cells54 HR.out (k + k2) hlt2
    obtain ⟨⟨b0, b1, b2⟩, -, -, -⟩ := cells54 HR.out (k + k2 - 1) (by omega)
    obtain ⟨⟨c0, c1, c2⟩, f0, f1, f2⟩ := cells54 HR.out kk (by omega)
    have e1 : rd_T33 d ((k + k2 : Nat) : Int) = rd_T33 l0 ((k + k2 : Nat) : Int) := by
     have := congrArg (fun m => m[1]?) HD.out.2.1
     simp only [List.getElem?_drop] at this
     rw [show k + k2 - 1 + 1 = k + k2 by omega] at this
     exact rd_eq54 this
    have e2 : rd_T33 d ((k + k2 - 1 : Nat) : Int) = rd_T33 l0 ((k + k2 - 1 : Nat) : Int) := by
     have := congrArg (fun m => m[0]?) HD.out.2.1
     simp only [List.getElem?_drop, Nat.add_zero] at this
     exact rd_eq54 this
    rw [e1, show (k + k2) * 3 = k * 3 + k2 * 3 by omega] at a0 a1 a2
    rw [e2, show (k + k2 - 1) * 3 = k * 3 + (k2 - 1) * 3 by omega] at b0 b1 b2
    have HE := HD.out.2.2; rw [dd_next l0 (k + k2) hlt2] at HE; clear e1 e2
    generalize hx : rd_T33 l0 ((k + k2 : Nat) : Int) = u at a0 a1 a2 HE
    generalize hy : rd_T33 l0 ((k + k2 - 1 : Nat) : Int) = v at b0 b1 b2 HE
    have HX2 := Aside0.mk hx; clear hx hy
    cases hdup : eqM u v with
    | true =>
     have he := eqM_run hdup; rw [hdup, if_pos rfl] at HE; have HE2 := Aside0.mk HE; clear hdup HE
     go_wp2_with fail
     go_quiet (fail)
     go_wp2
     go_roundg (l0.length - (k + (k2 + 1)))
     case measure => omega
     case rel => exact ⟨kk, k2 + 1, d, rfl, by go_num, by omega, by omega, Nat.le_refl _, by omega, by omega, ⟨Kd.R_drewN HR.out _⟩, ⟨pw_below_drewN HBB.out _⟩, ⟨HD.out.1, (by have := congrArg (List.drop 1) HD.out.2.1; simp only [List.drop_drop] at this; rw [show k + k2 - 1 + 1 = k + (k2 + 1) - 1 by omega] at this; exact this), (by have := HE2.out; rw [← HX2.out] at this; exact this)⟩⟩
    | false =>
     have he := eqM_run hdup; rw [hdup, if_neg (by simp)] at HE; have HE2 := Aside0.mk HE; clear hdup HE
     go_wp2_with fail
     go_quiet (fail)
     have HP := Aside0.mk (put54 (Kd.R_drewN HR.out nq) kk (by omega) u); go_wp2
     go_roundg (l0.length - (k + (k2 + 1)))
     case measure => omega
     case rel => exact ⟨kk + 1, k2 + 1, d.set kk u, by go_num, by go_num, by omega, by omega, Nat.le_refl _, by omega, by omega, ⟨HP.out.1⟩, ⟨below_own (pw_below_drewN HBB.out nq) HP.out.2 HG.out⟩, ⟨by rw [List.length_set]; exact HD.out.1, (by rw [show k + (k2 + 1) - 1 = k + k2 - 1 + 1 by omega]; exact drop_step54 u HD.out.2.1 (by omega)), (by have := HE2.out; rw [← HX2.out] at this ⊢; rw [List.take_succ_eq_append_getElem (by rw [List.length_set, HD.out.1]; omega), List.take_set_of_le (Nat.le_refl _), List.getElem_set_self]; exact this)⟩⟩
  | false =>
   have he := eqM_run hdup; rw [hdup, if_neg (by simp)] at HE; have HE' := Aside0.mk HE; clear hdup HE
   go_wp2_with fail
   go_quiet (fail)
   go_wp2
   go_roundg (l0.length - (k + 1))
   case measure => omega
   case rel => exact ⟨k + 1, _, by omega, by omega, Nat.le_refl _, by go_num, rfl, ⟨by rw [take_at54 l0 k hlt, HX.out, HX0.out]; exact HE'.out⟩⟩
end Go.Proofs.YtkedidjjhhjdbaaGreatDoor.Pr
end
section
set_option linter.unusedVariables false
set_option linter.unusedSimpArgs false
namespace Go.Proofs.YtkedidjjhhjdbaaGreatDoor.Pr
open Go.RowKit Go.Proofs.YtkedidjjhhjdbaaGreatDoorW.PrintWords Go.Proofs.YtkedidjjhhjdbaaGreatDoorW.PrintLast Go.Proofs.YtkedidjjhhjdbaaGreatDoorW.PrintMore
set_option maxHeartbeats 1000000 in
set_option maxRecDepth 100000 in
theorem slices_Clip_M.calls (A : Option Addr) (n c : Nat) (w : World) (hn : n ≤ c) (hc : c ≤ maxLen) (hA : A = none → n = 0 ∧ c = 0) :
  Calls Tryz.prog 67 #[.slice A n c] w fun e w' => e = .returned (.slice A n n) ∧ w' = w := by
 have hu48 := Tryz.underlying28
 unfold maxLen at hc
 cases A with
 | none =>
  obtain ⟨rfl, rfl⟩ := hA rfl
  go_enter Tryz.func67, Tryz.ntmps67
  go_wp2; go_ret
  exact ⟨rfl, rfl⟩
 | some a =>
  clear hA
  go_enter Tryz.func67, Tryz.ntmps67
  go_wp2; go_ret
  exact ⟨rfl, rfl⟩
theorem cell_new9 (w : World) (vs : Array Value) (t : TypeId) (j : Nat) (v : Value) (h : vs[j]? = some v) : (w.alloc (.cells vs t)).cell? ⟨w.heap.size, j, none⟩ = some v := by
 rw [World.cell?_alloc_at vs t w.heap.size j rfl]; exact h
theorem R_cap54 {w : World} {base : Nat} {ok : Nat → Prop} {A : Option Addr} {n c : Nat} {xs : List S33} (h : Kd.R k33 33 w base ok (.slice A n c) xs) : c ≤ maxLen ∧ (A = none → n = 0 ∧ c = 0) := by
 obtain ⟨_, ho⟩ := flat33.R h
 rcases ho.2 with ⟨hv, _⟩ | ⟨g, cap, cur, hv, _, _, _, hcm, _⟩
 rotate_left
 ·
  injection hv with h1 h2 h3
  subst h1; subst h3
  exact ⟨hcm, fun e => by cases e⟩
 injection hv with h1 h2 h3
 subst h1; subst h2; subst h3
 exact ⟨Nat.zero_le _, fun _ => ⟨rfl, rfl⟩⟩
def attr_Both.f (k : Nat) (l0 l1 : List S33) : Option (List S33 × Int) :=
  if (l0.length + l1.length) * 40 ≤ 140737488355328 then (attr_wrong.f k (l0 ++ l1)).bind fun why => if ((dd (sorted33 (l0 ++ l1))).length : Int) > 8 then some ([], 7) else if why = 0 then some (dd (sorted33 (l0 ++ l1)), 0) else some ([], why) else none
theorem dd_len : ∀ l : List S33, (dd l).length ≤ l.length := by
 have h : ∀ (l : List S33) (p : S33), (ddFrom p l).length ≤ l.length := by
  intro l
  induction l with
  | nil => intro p; simp [ddFrom]
  | cons x l ih =>
   intro p; rw [ddFrom]
   split
   · have := ih x; simp; omega
   have := ih x; simp; omega
 intro l
 cases l with
 | nil => simp [dd]
 | cons x l => rw [dd]; have := h l x; simp; omega
set_option maxHeartbeats 4000000 in
set_option maxRecDepth 100000 in
theorem attr_Both.calls (k : Nat) (A0 : Option Addr) (c0 : Nat) (l0 : List S33) (A1 : Option Addr) (c1 : Nat) (l1 : List S33) (r1 : List S33) (r2 : Int) (w : World) (hr0 : Kd.C k33 w A0 l0.length l0) (hc0 : l0.length ≤ c0) (hr1 : Kd.C k33 w A1 l1.length l1) (hc1 : l1.length ≤ c1) (h : attr_Both.f k l0 l1 = some (r1, r2)) (he_ : EnvW w := by repeat (first | with_reducible assumption | with_reducible exact env_of (by with_reducible assumption) (by with_reducible assumption) | with_reducible exact env_out (by with_reducible assumption) | with_reducible apply env_alloc | with_reducible apply env_drewN | with_reducible apply env_drew | with_reducible refine env_set ?_ (by with_reducible assumption) (by with_reducible assumption))) :
  Calls Tryz.prog 31 #[.slice A0 l0.length c0, .slice A1 l1.length c1] w fun e w' => ∃ v0_ : Value, e = .returned (.tuple #[v0_, .int .i64 r2]) ∧ WRow w' w.heap.size (fun _ => True) v0_ r1 ∧ Below w.heap.size w w' := by
 have hu48 := Tryz.underlying28; have hu80 := Tryz.underlying120
 unfold attr_Both.f at h
 by_cases hn : (l0.length + l1.length) * 40 ≤ 140737488355328; rotate_left
 · rw [if_neg hn] at h; cases h
 rw [if_pos hn] at h
 obtain ⟨why, hwhy, h⟩ := Option.bind_eq_some_iff.mp h
 have hsl := (sorted33_perm (l0 ++ l1)).2.1; have hdl := dd_len (sorted33 (l0 ++ l1)); rw [hsl] at hdl; have HN := Aside0.mk hn; have HR0 := Aside0.mk hr0; have HR1 := Aside0.mk hr1; have HE := Aside0.mk he_; have HW := Aside0.mk hwhy; have H := Aside0.mk h; have HSL := Aside0.mk hsl; have HDL := Aside0.mk hdl; clear hn hr0 hr1 he_ hwhy h hsl hdl
 go_enter Tryz.func31, Tryz.ntmps31
 go_wp2_with fail
 have hg0 : (w.alloc (.cells #[.slice A0 l0.length c0, .slice A1 l1.length c1] 28)).cell? ⟨w.heap.size, 0, none⟩ = some (.slice A0 l0.length c0) := cell_new9 _ _ _ _ _ rfl
 have hg1 : (w.alloc (.cells #[.slice A0 l0.length c0, .slice A1 l1.length c1] 28)).cell? ⟨w.heap.size, 1, none⟩ = some (.slice A1 l1.length c1) := cell_new9 _ _ _ _ _ rfl
 have hg2 : w.heap.size < (w.alloc (.cells #[.slice A0 l0.length c0, .slice A1 l1.length c1] 28)).heap.size := by simp
 have hC0 := Kd.C_alloc HR0.out (.cells #[.slice A0 l0.length c0, .slice A1 l1.length c1] 28); have hC1 := Kd.C_alloc HR1.out (.cells #[.slice A0 l0.length c0, .slice A1 l1.length c1] 28)
 have hbw : Below w.heap.size w (w.alloc (.cells #[.slice A0 l0.length c0, .slice A1 l1.length c1] 28)) := (Below.refl _ _).alloc (Nat.le_refl _) _
 generalize w.alloc (.cells #[.slice A0 l0.length c0, .slice A1 l1.length c1] 28) = W at hg0 hg1 hg2 hC0 hC1 hbw ⊢
 refine (slices_Concat_M.calls w.heap.size A0 A1 c0 c1 l0 l1 W hg0 hg1 hg2 hC0 hC1 HN.out).mono ?_
 clear hg0 hg1 hC0 hC1
 rintro e w1 ⟨v0, rfl, ho, hb⟩
 have HB := Aside0.mk (show Below w.heap.size w w1 from hbw.trans (hb.mono (by omega))); have HO := Aside0.mk (Kd.R_lower (base' := w.heap.size) ho (by omega)); clear ho hb hbw hg2
 have hall : (l0 ++ l1).length ≤ 3518437208883 := by have := HN.out; simp only [List.length_append]; omega
 clear HN
 generalize l0 ++ l1 = all at HO HW H HSL HDL hall
 have HA := Aside0.mk hall; clear hall
 obtain ⟨B, c, e1⟩ := Kd.R_slice HO.out
 subst e1
 go_wp2_with fail
 refine (attr_wrong.calls k B c all why _ (Kd.R_reads' HO.out).2.2 (Kd.R_reads' HO.out).2.1 HW.out (env_below HE.out HB.out)).mono ?_
 rintro e w2 ⟨rfl, hb⟩
 have HO2 := Aside0.mk (Kd.R_below HO.out hb); have HB2 := Aside0.mk (below_step HB.out hb); clear hb HO HB
 go_wp2_with fail
 refine (slices_SortFunc_M.calls (fun _ => True) _ all w _ HB2.out HO2.out (by have := HA.out; omega)).mono ?_
 rintro e w3 ⟨rfl, ho, hb⟩
 have HO3 := Aside0.mk ho; have HB3 := Aside0.mk hb; clear ho hb HO2 HB2
 go_wp2_with fail
 refine (slices_Compact_M.calls (fun _ => True) _ (sorted33 all) w _ HB3.out HO3.out (by have := HA.out; have := HSL.out; omega)).mono ?_
 rintro e w4 ⟨v4, rfl, ho, hb⟩
 have HO4 := Aside0.mk ho; have HB4 := Aside0.mk hb; clear ho hb HO3 HB3
 generalize dd (sorted33 all) = m at HO4 H HDL
 obtain ⟨C, c4, e4⟩ := Kd.R_slice HO4.out
 subst e4; have hdl := HDL.out; have hnn := HA.out
 have hml : m.length ≤ 3518437208883 := by omega
 have h := H.out; clear H hdl hnn HA HDL HSL; by_cases h8 : (m.length : Int) > 8
 ·
  rw [if_pos h8] at h
  simp only [Option.some.injEq, Prod.mk.injEq] at h
  obtain ⟨rfl, rfl⟩ := h
  have d8 : decide (8 < (m.length : Int)) = true := decide_eq_true h8
  have d8' : decide (8 < m.length) = true := decide_eq_true (by omega)
  clear h8
  go_wp2_with fail
  go_ret2
  exact ⟨_, rfl, ⟨none, 0, rfl, Nat.le_refl _, Nat.zero_le _, .inl rfl⟩, HB4.out⟩
 rw [if_neg h8] at h
 have d8 : decide (8 < (m.length : Int)) = false := decide_eq_false h8
 have d8' : decide (8 < m.length) = false := decide_eq_false (by omega)
 clear h8; by_cases hw : why = 0; rotate_left
 ·
  rw [if_neg hw] at h
  simp only [Option.some.injEq, Prod.mk.injEq] at h
  obtain ⟨rfl, rfl⟩ := h
  have dw : (why != 0) = true := bne_iff_ne.mpr hw
  clear hw
  go_wp2_with fail
  go_ret2
  exact ⟨_, rfl, ⟨none, 0, rfl, Nat.le_refl _, Nat.zero_le _, .inl rfl⟩, HB4.out⟩
 rw [if_pos hw] at h
 simp only [Option.some.injEq, Prod.mk.injEq] at h
 obtain ⟨rfl, rfl⟩ := h
 have dw : (why != 0) = false := bne_eq_false_iff_eq.mpr hw
 clear hw
 go_wp2_with fail
 refine (slices_Clip_M.calls C m.length c4 _ (Kd.R_reads' HO4.out).2.1 (R_cap54 HO4.out).1 (R_cap54 HO4.out).2).mono ?_
 rintro e w' ⟨rfl, rfl⟩
 go_wp2_with fail
 go_ret2
 exact ⟨_, rfl, WRow.of_R HO4.out, HB4.out⟩
end Go.Proofs.YtkedidjjhhjdbaaGreatDoor.Pr
end
section
set_option linter.unusedVariables false
set_option linter.unusedSimpArgs false
namespace Go.Proofs.YtkedidjjhhjdbaaGreatDoor.Pr
open Go.RowKit Go.Proofs.YtkedidjjhhjdbaaGreatDoorW.PrintWords Go.Proofs.YtkedidjjhhjdbaaGreatDoorW.PrintLast Go.Proofs.YtkedidjjhhjdbaaGreatDoorW.PrintMore
def ltM (x y : S33) : Bool := ltOf cmpMat x y
theorem ltM_trans {x y z : S33} (h : ltM x y = true) (h' : ltM y z = true) : ltM x z = true := swoMat.trans x y z h h'
theorem ltM_irrefl (x : S33) : ltM x x = false := swoMat.irrefl x
theorem less_tri {a b : List UInt8} (h : Op.bytesLess a b = false) (h' : Op.bytesLess b a = false) : a = b := by
 have := bytesLess_total a b
 rw [h, h', Bool.false_or] at this
 exact eq_of_beq (by simpa using this)
theorem ltM_tri {x y : S33} (h : ltM x y = false) (h' : ltM y x = false) : x = y := by
 have n1 : ¬ _ := fun e => Bool.noConfusion (h.symm.trans ((cmpMat_lt x y).2 e))
 have n2 : ¬ _ := fun e => Bool.noConfusion (h'.symm.trans ((cmpMat_lt y x).2 e))
 have e1 : x.f1.data.toList = y.f1.data.toList := less_tri (Bool.eq_false_iff.mpr fun e => n1 (.inl e)) (Bool.eq_false_iff.mpr fun e => n2 (.inl e))
 have o1 : ¬ x.f0 < y.f0 := fun e => n1 (.inr ⟨e1, .inl e⟩)
 have o2 : ¬ y.f0 < x.f0 := fun e => n2 (.inr ⟨e1.symm, .inl e⟩)
 have e0 : x.f0 = y.f0 := by omega
 have e2 : x.f2.data.toList = y.f2.data.toList := less_tri (Bool.eq_false_iff.mpr fun e => n1 (.inr ⟨e1, .inr ⟨e0, e⟩⟩)) (Bool.eq_false_iff.mpr fun e => n2 (.inr ⟨e1.symm, .inr ⟨e0.symm, e⟩⟩))
 have e1' : x.f1 = y.f1 := bytes_ext (by rw [Lib.toList_data, Lib.toList_data]; exact e1)
 have e2' : x.f2 = y.f2 := bytes_ext (by rw [Lib.toList_data, Lib.toList_data]; exact e2)
 cases x; cases y
 simp only at e0 e1' e2'
 rw [e0, e1', e2']
theorem eqM_eq {x y : S33} (h : eqM x y = true) : x = y := by
 unfold eqM at h
 simp only [Bool.and_eq_true, beq_iff_eq] at h
 obtain ⟨h0, h1, h2⟩ := h
 cases x; cases y
 simp only at h0 h1 h2
 rw [h0, bytes_ext h1, bytes_ext h2]
theorem eqM_refl (x : S33) : eqM x x = true := by simp [eqM]
theorem eqM_ne {x y : S33} (h : eqM x y = false) : x ≠ y := by rintro rfl; rw [eqM_refl] at h; cases h
abbrev Stc (l : List S33) : Prop := l.Pairwise fun a b => ltM a b = true
theorem stc_ext : ∀ {a b : List S33}, Stc a → Stc b → (∀ x, x ∈ a ↔ x ∈ b) → a = b
 | [], [], _, _, _ => rfl
 | [], y :: b, _, _, h => by have := (h y).2 (List.mem_cons_self ..); cases this
 | x :: a, [], _, _, h => by have := (h x).1 (List.mem_cons_self ..); cases this
 | x :: a, y :: b, ha, hb, h => by
  have ha' := List.pairwise_cons.1 ha; have hb' := List.pairwise_cons.1 hb
  have e : x = y := by
   rcases List.mem_cons.1 ((h x).1 (List.mem_cons_self ..)) with e | hx
   · exact e
   rcases List.mem_cons.1 ((h y).2 (List.mem_cons_self ..)) with e | hy
   · exact e.symm
   have := ltM_trans (ha'.1 y hy) (hb'.1 x hx)
   rw [ltM_irrefl] at this; cases this
  subst e
  rw [stc_ext ha'.2 hb'.2 (fun z => ?_)]
  constructor
  ·
   intro hz
   rcases List.mem_cons.1 ((h z).1 (List.mem_cons_of_mem _ hz)) with e | hz'
   rotate_left
   · exact hz'
   subst e; have := ha'.1 z hz; rw [ltM_irrefl] at this; cases this
  intro hz
  rcases List.mem_cons.1 ((h z).2 (List.mem_cons_of_mem _ hz)) with e | hz'
  rotate_left
  · exact hz'
  subst e; have := hb'.1 z hz; rw [ltM_irrefl] at this; cases this
def insU (x : S33) : List S33 → List S33
  | [] => [x]
  | y :: m => if ltM x y = true then x :: y :: m else if eqM y x = true then y :: m else y :: insU x m
theorem insU_mem (x z : S33) : ∀ m, z ∈ insU x m ↔ z = x ∨ z ∈ m
 | [] => by simp [insU]
 | y :: m => by
  rw [insU]; by_cases h : ltM x y = true
  · rw [if_pos h]; simp
  rw [if_neg h]; by_cases e : eqM y x = true
  ·
   rw [if_pos e]
   have := eqM_eq e
   subst this
   simp
  rw [if_neg e, List.mem_cons, insU_mem x z m, List.mem_cons]
  constructor
  ·
   rintro (h | h | h)
   · exact .inr (.inl h)
   · exact .inl h
   exact .inr (.inr h)
  rintro (h | h | h)
  · exact .inr (.inl h)
  · exact .inl h
  exact .inr (.inr h)
theorem insU_stc (x : S33) : ∀ m, Stc m → Stc (insU x m)
 | [], _ => by simp [insU, Stc]
 | y :: m, h => by
  have h' := List.pairwise_cons.1 h; rw [insU]; by_cases hl : ltM x y = true
  ·
   rw [if_pos hl]
   refine List.pairwise_cons.2 ⟨fun z hz => ?_, h⟩
   rcases List.mem_cons.1 hz with rfl | hz
   · exact hl
   exact ltM_trans hl (h'.1 z hz)
  rw [if_neg hl]; by_cases e : eqM y x = true
  · rw [if_pos e]; exact h
  rw [if_neg e]
  refine List.pairwise_cons.2 ⟨fun z hz => ?_, insU_stc x m h'.2⟩
  rcases (insU_mem x z m).1 hz with rfl | hz
  rotate_left
  · exact h'.1 z hz
  cases hyx : ltM y z with
  | true => rfl
  | false => exact absurd (ltM_tri hyx (Bool.eq_false_iff.mpr hl)) (eqM_ne (Bool.eq_false_iff.mpr e))
def insAllU (m : List S33) (l : List S33) : List S33 := l.foldl (fun a x => insU x a) m
theorem insAllU_stc : ∀ (l m : List S33), Stc m → Stc (insAllU m l)
 | [], _, h => h
 | x :: l, m, h => insAllU_stc l (insU x m) (insU_stc x m h)
theorem insAllU_mem (z : S33) : ∀ (l m : List S33), z ∈ insAllU m l ↔ z ∈ m ∨ z ∈ l
 | [], m => by simp [insAllU]
 | x :: l, m => by
  have := insAllU_mem z l (insU x m)
  rw [insU_mem] at this
  show z ∈ insAllU (insU x m) l ↔ _
  rw [this, List.mem_cons]
  constructor
  rotate_left
  ·
   rintro (h | h | h)
   · exact .inl (.inr h)
   rotate_left
   · exact .inr h
   exact .inl (.inl h)
  rintro ((h | h) | h)
  · exact .inr (.inl h)
  · exact .inl h
  exact .inr (.inr h)
theorem sorted33_srt (l : List S33) : (sorted33 l).Pairwise fun a b => ltM b a = false := by
 obtain ⟨_, h2, h3⟩ := sorted33_perm l
 refine List.pairwise_iff_getElem.2 fun i j hi hj hij => ?_
 have := h3 i j (Nat.zero_le _) hij (by omega)
 simp [hi, hj] at this
 exact this
theorem ddFrom_mem : ∀ (l : List S33) (q x : S33), x ∈ q :: ddFrom q l ↔ x ∈ q :: l
 | [], q, x => Iff.rfl
 | y :: l, q, x => by
  rw [ddFrom]; by_cases h : eqM y q = true; rotate_left
  · rw [if_neg h, List.mem_cons, ddFrom_mem l y x, ← List.mem_cons]
  rw [if_pos h]
  have := eqM_eq h
  subst this; rw [ddFrom_mem l y x]
  simp
theorem ddFrom_stc : ∀ (l : List S33) (q : S33), (q :: l).Pairwise (fun a b => ltM b a = false) → Stc (q :: ddFrom q l)
 | [], q, _ => by simp [ddFrom, Stc]
 | y :: l, q, h => by
  have h' := List.pairwise_cons.1 h; have ih := ddFrom_stc l y h'.2; rw [ddFrom]; by_cases e : eqM y q = true
  ·
   rw [if_pos e]
   have := eqM_eq e
   subst this; exact ih
  rw [if_neg e]
  have hqy : ltM q y = true := by
   cases hh : ltM q y with
   | true => rfl
   | false => exact absurd (ltM_tri (h'.1 y (List.mem_cons_self ..)) hh) (eqM_ne (Bool.eq_false_iff.mpr e))
  refine List.pairwise_cons.2 ⟨fun z hz => ?_, ih⟩
  rcases List.mem_cons.1 hz with rfl | hz
  · exact hqy
  exact ltM_trans hqy ((List.pairwise_cons.1 ih).1 z hz)
theorem dd_sorted (l : List S33) : dd (sorted33 l) = insAllU [] l := by
 have hs := sorted33_srt l; have hp := (sorted33_perm l).1
 refine stc_ext ?_ (insAllU_stc l [] List.Pairwise.nil) (fun x => ?_)
 ·
  generalize sorted33 l = s at hs
  cases s with
  | nil => exact List.Pairwise.nil
  | cons q s => exact ddFrom_stc s q hs
 rw [insAllU_mem]
 have : x ∈ dd (sorted33 l) ↔ x ∈ sorted33 l := by
  generalize sorted33 l = s
  cases s with
  | nil => exact Iff.rfl
  | cons q s => exact ddFrom_mem s q x
 rw [this, hp.mem_iff]
 simp
def bothL (a b : List S33) : List S33 × Int := if ((insAllU [] (a ++ b)).length : Int) > 8 then ([], 7) else if wrongL (a ++ b) = 0 then (insAllU [] (a ++ b), 0) else ([], wrongL (a ++ b))
theorem both_ev (a b : List S33) (h : a.length + b.length ≤ 3518437208883) : Ev (fun k => attr_Both.f k a b) (bothL a b) := by
 unfold attr_Both.f bothL
 rw [dd_sorted]
 rw [show (fun k => if (a.length + b.length) * 40 ≤ 140737488355328 then (attr_wrong.f k (a ++ b)).bind fun why => if ((insAllU [] (a ++ b)).length : Int) > 8 then some ([], 7) else if why = 0 then some (insAllU [] (a ++ b), 0) else some ([], why) else none) = fun k => (attr_wrong.f k (a ++ b)).bind fun why => if ((insAllU [] (a ++ b)).length : Int) > 8 then some ([], 7) else if why = 0 then some (insAllU [] (a ++ b), 0) else some ([], why) from funext fun k => if_pos (by omega)]
 refine Ev.bind (wrong_ev (a ++ b) (by simp; omega)) (Ev.const ?_)
 split
 · rfl
 split <;> rfl
end Go.Proofs.YtkedidjjhhjdbaaGreatDoor.Pr
end
section
set_option linter.unusedVariables false
set_option linter.unusedSimpArgs false
namespace Go.Proofs.YtkedidjjhhjdbaaGreatDoor.Pr
open Go.RowKit Go.Proofs.YtkedidjjhhjdbaaGreatDoorW.PrintWords Go.Proofs.YtkedidjjhhjdbaaGreatDoorW.PrintLast Go.Proofs.YtkedidjjhhjdbaaGreatDoorW.PrintMore
def slices_Clone_Str.f (l0 : List ByteArray) : Option (List ByteArray) := if l0.length < 8796093022208 then some l0 else none
set_option maxHeartbeats 1000000 in
theorem slices_Clone_Str.calls (A0 : Option Addr) (c0 : Nat) (l0 : List ByteArray) (r : List ByteArray) (w : World) (hr0 : Kd.C Kd.string w A0 l0.length l0) (hc0 : l0.length ≤ c0) (h : slices_Clone_Str.f l0 = some r) :
  Calls Tryz.prog 32 #[.slice A0 l0.length c0] w fun e w' => ∃ v0_ : Value, e = .returned (v0_) ∧ Kd.R Kd.string 9 w' w.heap.size (fun _ => True) v0_ r ∧ Below w.heap.size w w' := by
 unfold slices_Clone_Str.f at h
 by_cases hl : l0.length < 8796093022208; rotate_left
 · rw [if_neg hl] at h; cases h
 rw [if_pos hl] at h
 obtain rfl := Option.some.inj h
 clear h
 have q29 : ∀ (w : World) (a : Option Addr) (n c n' c' : Nat), (binOp .eql 29 (.slice a n c) (.slice none n' c')).run Tryz.prog w = .ok (.bool a.isNone) w := fun w a n c n' c' => Lib.run_eql_slice_nil w _ _ a n c n' c' Tryz.underlying29
 have HL := Aside0.mk hl; clear hl
 cases A0 with
 | none =>
  have h0 : l0.length = 0 := by
   rcases Nat.eq_zero_or_pos l0.length with h0 | h0
   · exact h0
   obtain ⟨ad, e, _⟩ := hr0.2.2 h0
   cases e
  have hn := List.eq_nil_of_length_eq_zero h0; subst hn; clear hr0 h0
  go_enter Tryz.func32, Tryz.ntmps32
  go_wp2; go_ret
  exact ⟨_, rfl, Kd.R_nil _ _ _ _ _, Below.refl _ _⟩
 | some ad =>
  have HR0 := Aside0.mk hr0; clear hr0 hc0
  go_enter Tryz.func32, Tryz.ntmps32
  go_wp2_with (first | ((with_reducible refine gate_builtin (b := .append) (xs := #[.tmp 5, .tmp 6]) rfl ?_); at_builtin; refine Kd.R_append_rows Kd.string (w0 := w) w.heap.size rfl (.tmp 5) (.tmp 6) 29 9 (.string ⟨#[]⟩) 16 rfl Tryz.underlying29 info9 rfl (by decide) (by omega) (.slice (some ⟨w.heap.size, 0, none⟩) 0 0) ([] : List (ByteArray)) l0 _ _ _ (fun _ => True) (fun _ => False) rfl rfl ?aO ?aR (fun _ _ h => h) (fun _ h => h.elim) ?aF ?aB ?aS ?aL ?_; (case aR => exact Kd.C_alloc HR0.out _); (case aB => exact (Below.refl _ _).alloc (Nat.le_refl _) _); (case aF => exact (fun _ _ => trivial)); (case aO => exact flatStr.R' (fun _ _ => trivial) (World.ownsRow_made w #[] 0 (Nat.le_refl _) (Nat.zero_le _) (by simp))); (case aS => simp); (case aL => have := HL.out; (try simp only [List.length_nil, Nat.zero_add]); omega); intro v1 w1 ho hb hg hat))
  go_ret
  exact ⟨_, rfl, by simpa using ho, hb⟩
end Go.Proofs.YtkedidjjhhjdbaaGreatDoor.Pr
end
section
namespace Go.Proofs.YtkedidjjhhjdbaaGreatDoor.Pr
open Go.RowKit Go.Proofs.YtkedidjjhhjdbaaGreatDoorW.PrintWords Go.Proofs.YtkedidjjhhjdbaaGreatDoorW.PrintLast Go.Proofs.YtkedidjjhhjdbaaGreatDoorW.PrintMore
attribute [local go_sem] max2_int min2_int max_two min_two max_three min_three max_four min_four strGtr strLeq strGeq
set_option linter.unusedVariables false
set_option linter.unusedSimpArgs false
def policy_other.f (a0_0 : Int) (a0_1 : ByteArray) (a0_2 : ByteArray) : Option (Int × ByteArray × ByteArray) := if a0_0 = 1 then (some (2, a0_1, a0_2)) else (if a0_0 = 2 then (some (1, a0_1, a0_2)) else (if a0_0 = 3 then (some (4, a0_1, a0_2)) else (if a0_0 = 4 then (some (3, a0_1, a0_2)) else (some (a0_0, a0_1, a0_2)))))
set_option maxHeartbeats 8000000 in
set_option maxRecDepth 100000 in
theorem policy_other.calls (a0_0 : Int) (a0_1 : ByteArray) (a0_2 : ByteArray) (r1 : Int) (r2 : ByteArray) (r3 : ByteArray) (w : World) (h : policy_other.f a0_0 a0_1 a0_2 = some (r1, r2, r3)) :
  Calls Tryz.prog 30 #[.agg #[.int .i64 a0_0, .string a0_1, .string a0_2]] w fun e w' => e = .returned (.agg #[.int .i64 r1, .string r2, .string r3]) ∧ Below w.heap.size w w' := by
 have hu33 := Tryz.underlying33; have HB := Aside0.mk (Below.refl w.heap.size w)
 have H : (if a0_0 = 1 then (some (2, a0_1, a0_2)) else (if a0_0 = 2 then (some (1, a0_1, a0_2)) else (if a0_0 = 3 then (some (4, a0_1, a0_2)) else (if a0_0 = 4 then (some (3, a0_1, a0_2)) else (some (a0_0, a0_1, a0_2)))))) = some (r1, r2, r3) := h
 clear h; by_cases c2 : a0_0 = 1
 ·
  rw [if_pos c2] at H
  have c2b0 : (a0_0 == 1) = true := beq_iff_eq.mpr c2
  have c2b1 : (a0_0 != 1) = false := bne_eq_false_iff_eq.mpr c2
  clear c2
  simp only [Option.some.injEq, Prod.mk.injEq] at H
  obtain ⟨rfl, rfl, rfl⟩ := H
  go_enter Tryz.func30, Tryz.ntmps30
  go_wp2_with (first | ((with_reducible refine gate_dst (N := 1) rfl ?_); refine box_event ?hg (N := 1) ?hd (cs := #[.int .i64 a0_0, .string a0_1, .string a0_2]) (t := 33) ?hr ?_; (case hd => rfl); (case hg => rfl); (case hr => first | (go_simp; done) | (go_simp; rfl)); intro gb117 hg w3 hbox hb; have n0_ := Aside0.mk (below_step bO hb); have n1_ := Aside0.mk (hbox); have n2_ := Aside0.mk ((by rw [hg]; exact (below_size bO) : w.heap.size ≤ gb117)); have n3_ := Aside0.mk ((by rw [hg]; exact (below_size bO) : w.heap.size ≤ gb117)); clear HB; have HB := n0_; have BK117 := n1_; have GW117 := n2_; have GE117 := n3_; clear n0_ n1_ n2_ n3_; clear hb hbox hg) | ((with_reducible refine gate_dst (N := 2) rfl ?_); refine box_event ?hg (N := 2) ?hd (cs := #[.int .i64 0, .string (⟨#[]⟩ : ByteArray), .string (⟨#[]⟩ : ByteArray)]) (t := 33) ?hr ?_; (case hd => rfl); (case hg => rfl); (case hr => first | (go_simp; done) | (go_simp; rfl)); intro gb118 hg w4 hbox hb; have n0_ := Aside0.mk (blk_below (g := gb117) (o := .cells #[.int .i64 a0_0, .string a0_1, .string a0_2] 33 (0, 0)) bK hb); have n1_ := Aside0.mk (below_step bO hb); have n2_ := Aside0.mk (hbox); have n3_ := Aside0.mk ((by rw [hg]; exact (below_size bO) : w.heap.size ≤ gb118)); have n4_ := Aside0.mk ((by rw [hg]; exact (below_size bO) : w.heap.size ≤ gb118)); have n5_ := Aside0.mk ((by rw [hg]; exact Nat.ne_of_lt (blk_lt (g := gb117) (o := .cells #[.int .i64 a0_0, .string a0_1, .string a0_2] 33 (0, 0)) bK) : gb117 ≠ gb118)); have n6_ := Aside0.mk ((by rw [hg]; exact Nat.ne_of_gt (blk_lt (g := gb117) (o := .cells #[.int .i64 a0_0, .string a0_1, .string a0_2] 33 (0, 0)) bK) : gb118 ≠ gb117)); clear BK117; clear HB; have BK117 := n0_; have HB := n1_; have BK118 := n2_; have GW118 := n3_; have GE118 := n4_; have NB117_118 := n5_; have NB118_117 := n6_; clear n0_ n1_ n2_ n3_ n4_ n5_ n6_; clear hb hbox hg; have hnb5 := NB117_118.out; have hnc5 := NB118_117.out; have hcz6_0 : w4.cell? ⟨gb117, 0, none⟩ = some (.int .i64 a0_0) := (blk_cell BK117.out 0).trans rfl; have hcz6_1 : w4.cell? ⟨gb117, 1, none⟩ = some (.string a0_1) := (blk_cell BK117.out 1).trans rfl; have hcz6_2 : w4.cell? ⟨gb117, 2, none⟩ = some (.string a0_2) := (blk_cell BK117.out 2).trans rfl; have hfz6_0 := blk_frozen BK117.out 0; have hfz6_1 := blk_frozen BK117.out 1; have hfz6_2 := blk_frozen BK117.out 2; have hcz7_0 : w4.cell? ⟨gb118, 0, none⟩ = some (.int .i64 0) := (blk_cell BK118.out 0).trans rfl; have hcz7_1 : w4.cell? ⟨gb118, 1, none⟩ = some (.string (⟨#[]⟩ : ByteArray)) := (blk_cell BK118.out 1).trans rfl; have hcz7_2 : w4.cell? ⟨gb118, 2, none⟩ = some (.string (⟨#[]⟩ : ByteArray)) := (blk_cell BK118.out 2).trans rfl; have hfz7_0 := blk_frozen BK118.out 0; have hfz7_1 := blk_frozen BK118.out 1; have hfz7_2 := blk_frozen BK118.out 2))
  refine bodyPost_ret (results_cell_row rfl _ _ gb118 33 #[.int .i64 2, .string a0_1, .string a0_2] (0, 0) _ rfl (by (with_reducible repeat (first | refine blk_drewN ?_ _ | refine blk_drew ?_ | refine blk_alloc ?_ _)); refine blk_put (cs := #[.int .i64 2, .string a0_1, .string (⟨#[]⟩ : ByteArray)]) ?_ 2 _ rfl; (with_reducible repeat (first | refine blk_drewN ?_ _ | refine blk_drew ?_ | refine blk_alloc ?_ _)); refine blk_put (cs := #[.int .i64 2, .string (⟨#[]⟩ : ByteArray), .string (⟨#[]⟩ : ByteArray)]) ?_ 1 _ rfl; (with_reducible repeat (first | refine blk_drewN ?_ _ | refine blk_drew ?_ | refine blk_alloc ?_ _)); refine blk_put (cs := #[.int .i64 0, .string (⟨#[]⟩ : ByteArray), .string (⟨#[]⟩ : ByteArray)]) ?_ 0 _ rfl; (with_reducible repeat (first | refine blk_drewN ?_ _ | refine blk_drew ?_ | refine blk_alloc ?_ _)); refine blk_far ?_ NB118_117.out _; (with_reducible repeat (first | refine blk_drewN ?_ _ | refine blk_drew ?_ | refine blk_alloc ?_ _)); exact BK118.out) Tryz.underlying33 rfl (by kernel_rfl)) rfl ?_
  exact ⟨eR, bO⟩
 rw [if_neg c2] at H
 have c2b0 : (a0_0 == 1) = false := beq_eq_false_iff_ne.mpr c2
 have c2b1 : (a0_0 != 1) = true := bne_iff_ne.mpr c2
 by_cases c8 : a0_0 = 2
 ·
  rw [if_pos c8] at H
  have c8b0 : (a0_0 == 2) = true := beq_iff_eq.mpr c8
  have c8b1 : (a0_0 != 2) = false := bne_eq_false_iff_eq.mpr c8
  clear c8
  simp only [Option.some.injEq, Prod.mk.injEq] at H
  obtain ⟨rfl, rfl, rfl⟩ := H
  go_enter Tryz.func30, Tryz.ntmps30
  go_wp2_with (first | ((with_reducible refine gate_dst (N := 1) rfl ?_); refine box_event ?hg (N := 1) ?hd (cs := #[.int .i64 a0_0, .string a0_1, .string a0_2]) (t := 33) ?hr ?_; (case hd => rfl); (case hg => rfl); (case hr => first | (go_simp; done) | (go_simp; rfl)); intro gb117 hg w9 hbox hb; have n0_ := Aside0.mk (below_step bO hb); have n1_ := Aside0.mk (hbox); have n2_ := Aside0.mk ((by rw [hg]; exact (below_size bO) : w.heap.size ≤ gb117)); have n3_ := Aside0.mk ((by rw [hg]; exact (below_size bO) : w.heap.size ≤ gb117)); clear HB; have HB := n0_; have BK117 := n1_; have GW117 := n2_; have GE117 := n3_; clear n0_ n1_ n2_ n3_; clear hb hbox hg) | ((with_reducible refine gate_dst (N := 2) rfl ?_); refine box_event ?hg (N := 2) ?hd (cs := #[.int .i64 0, .string (⟨#[]⟩ : ByteArray), .string (⟨#[]⟩ : ByteArray)]) (t := 33) ?hr ?_; (case hd => rfl); (case hg => rfl); (case hr => first | (go_simp; done) | (go_simp; rfl)); intro gb118 hg w10 hbox hb; have n0_ := Aside0.mk (blk_below (g := gb117) (o := .cells #[.int .i64 a0_0, .string a0_1, .string a0_2] 33 (0, 0)) bK hb); have n1_ := Aside0.mk (below_step bO hb); have n2_ := Aside0.mk (hbox); have n3_ := Aside0.mk ((by rw [hg]; exact (below_size bO) : w.heap.size ≤ gb118)); have n4_ := Aside0.mk ((by rw [hg]; exact (below_size bO) : w.heap.size ≤ gb118)); have n5_ := Aside0.mk ((by rw [hg]; exact Nat.ne_of_lt (blk_lt (g := gb117) (o := .cells #[.int .i64 a0_0, .string a0_1, .string a0_2] 33 (0, 0)) bK) : gb117 ≠ gb118)); have n6_ := Aside0.mk ((by rw [hg]; exact Nat.ne_of_gt (blk_lt (g := gb117) (o := .cells #[.int .i64 a0_0, .string a0_1, .string a0_2] 33 (0, 0)) bK) : gb118 ≠ gb117)); clear BK117; clear HB; have BK117 := n0_; have HB := n1_; have BK118 := n2_; have GW118 := n3_; have GE118 := n4_; have NB117_118 := n5_; have NB118_117 := n6_; clear n0_ n1_ n2_ n3_ n4_ n5_ n6_; clear hb hbox hg; have hnb11 := NB117_118.out; have hnc11 := NB118_117.out; have hcz12_0 : w10.cell? ⟨gb117, 0, none⟩ = some (.int .i64 a0_0) := (blk_cell BK117.out 0).trans rfl; have hcz12_1 : w10.cell? ⟨gb117, 1, none⟩ = some (.string a0_1) := (blk_cell BK117.out 1).trans rfl; have hcz12_2 : w10.cell? ⟨gb117, 2, none⟩ = some (.string a0_2) := (blk_cell BK117.out 2).trans rfl; have hfz12_0 := blk_frozen BK117.out 0; have hfz12_1 := blk_frozen BK117.out 1; have hfz12_2 := blk_frozen BK117.out 2; have hcz13_0 : w10.cell? ⟨gb118, 0, none⟩ = some (.int .i64 0) := (blk_cell BK118.out 0).trans rfl; have hcz13_1 : w10.cell? ⟨gb118, 1, none⟩ = some (.string (⟨#[]⟩ : ByteArray)) := (blk_cell BK118.out 1).trans rfl; have hcz13_2 : w10.cell? ⟨gb118, 2, none⟩ = some (.string (⟨#[]⟩ : ByteArray)) := (blk_cell BK118.out 2).trans rfl; have hfz13_0 := blk_frozen BK118.out 0; have hfz13_1 := blk_frozen BK118.out 1; have hfz13_2 := blk_frozen BK118.out 2))
  refine bodyPost_ret (results_cell_row rfl _ _ gb118 33 #[.int .i64 1, .string a0_1, .string a0_2] (0, 0) _ rfl (by (with_reducible repeat (first | refine blk_drewN ?_ _ | refine blk_drew ?_ | refine blk_alloc ?_ _)); refine blk_put (cs := #[.int .i64 1, .string a0_1, .string (⟨#[]⟩ : ByteArray)]) ?_ 2 _ rfl; (with_reducible repeat (first | refine blk_drewN ?_ _ | refine blk_drew ?_ | refine blk_alloc ?_ _)); refine blk_put (cs := #[.int .i64 1, .string (⟨#[]⟩ : ByteArray), .string (⟨#[]⟩ : ByteArray)]) ?_ 1 _ rfl; (with_reducible repeat (first | refine blk_drewN ?_ _ | refine blk_drew ?_ | refine blk_alloc ?_ _)); refine blk_put (cs := #[.int .i64 0, .string (⟨#[]⟩ : ByteArray), .string (⟨#[]⟩ : ByteArray)]) ?_ 0 _ rfl; (with_reducible repeat (first | refine blk_drewN ?_ _ | refine blk_drew ?_ | refine blk_alloc ?_ _)); refine blk_far ?_ NB118_117.out _; (with_reducible repeat (first | refine blk_drewN ?_ _ | refine blk_drew ?_ | refine blk_alloc ?_ _)); exact BK118.out) Tryz.underlying33 rfl (by kernel_rfl)) rfl ?_
  exact ⟨eR, bO⟩
 rw [if_neg c8] at H
 have c8b0 : (a0_0 == 2) = false := beq_eq_false_iff_ne.mpr c8
 have c8b1 : (a0_0 != 2) = true := bne_iff_ne.mpr c8
 by_cases c14 : a0_0 = 3
 ·
  rw [if_pos c14] at H
  have c14b0 : (a0_0 == 3) = true := beq_iff_eq.mpr c14
  have c14b1 : (a0_0 != 3) = false := bne_eq_false_iff_eq.mpr c14
  clear c14
  simp only [Option.some.injEq, Prod.mk.injEq] at H
  obtain ⟨rfl, rfl, rfl⟩ := H
  go_enter Tryz.func30, Tryz.ntmps30
  go_wp2_with (first | ((with_reducible refine gate_dst (N := 1) rfl ?_); refine box_event ?hg (N := 1) ?hd (cs := #[.int .i64 a0_0, .string a0_1, .string a0_2]) (t := 33) ?hr ?_; (case hd => rfl); (case hg => rfl); (case hr => first | (go_simp; done) | (go_simp; rfl)); intro gb117 hg w15 hbox hb; have n0_ := Aside0.mk (below_step bO hb); have n1_ := Aside0.mk (hbox); have n2_ := Aside0.mk ((by rw [hg]; exact (below_size bO) : w.heap.size ≤ gb117)); have n3_ := Aside0.mk ((by rw [hg]; exact (below_size bO) : w.heap.size ≤ gb117)); clear HB; have HB := n0_; have BK117 := n1_; have GW117 := n2_; have GE117 := n3_; clear n0_ n1_ n2_ n3_; clear hb hbox hg) | ((with_reducible refine gate_dst (N := 2) rfl ?_); refine box_event ?hg (N := 2) ?hd (cs := #[.int .i64 0, .string (⟨#[]⟩ : ByteArray), .string (⟨#[]⟩ : ByteArray)]) (t := 33) ?hr ?_; (case hd => rfl); (case hg => rfl); (case hr => first | (go_simp; done) | (go_simp; rfl)); intro gb118 hg w16 hbox hb; have n0_ := Aside0.mk (blk_below (g := gb117) (o := .cells #[.int .i64 a0_0, .string a0_1, .string a0_2] 33 (0, 0)) bK hb); have n1_ := Aside0.mk (below_step bO hb); have n2_ := Aside0.mk (hbox); have n3_ := Aside0.mk ((by rw [hg]; exact (below_size bO) : w.heap.size ≤ gb118)); have n4_ := Aside0.mk ((by rw [hg]; exact (below_size bO) : w.heap.size ≤ gb118)); have n5_ := Aside0.mk ((by rw [hg]; exact Nat.ne_of_lt (blk_lt (g := gb117) (o := .cells #[.int .i64 a0_0, .string a0_1, .string a0_2] 33 (0, 0)) bK) : gb117 ≠ gb118)); have n6_ := Aside0.mk ((by rw [hg]; exact Nat.ne_of_gt (blk_lt (g := gb117) (o := .cells #[.int .i64 a0_0, .string a0_1, .string a0_2] 33 (0, 0)) bK) : gb118 ≠ gb117)); clear BK117; clear HB; have BK117 := n0_; have HB := n1_; have BK118 := n2_; have GW118 := n3_; have GE118 := n4_; have NB117_118 := n5_; have NB118_117 := n6_; clear n0_ n1_ n2_ n3_ n4_ n5_ n6_; clear hb hbox hg; have hnb17 := NB117_118.out; have hnc17 := NB118_117.out; have hcz18_0 : w16.cell? ⟨gb117, 0, none⟩ = some (.int .i64 a0_0) := (blk_cell BK117.out 0).trans rfl; have hcz18_1 : w16.cell? ⟨gb117, 1, none⟩ = some (.string a0_1) := (blk_cell BK117.out 1).trans rfl; have hcz18_2 : w16.cell? ⟨gb117, 2, none⟩ = some (.string a0_2) := (blk_cell BK117.out 2).trans rfl; have hfz18_0 := blk_frozen BK117.out 0; have hfz18_1 := blk_frozen BK117.out 1; have hfz18_2 := blk_frozen BK117.out 2; have hcz19_0 : w16.cell? ⟨gb118, 0, none⟩ = some (.int .i64 0) := (blk_cell BK118.out 0).trans rfl; have hcz19_1 : w16.cell? ⟨gb118, 1, none⟩ = some (.string (⟨#[]⟩ : ByteArray)) := (blk_cell BK118.out 1).trans rfl; have hcz19_2 : w16.cell? ⟨gb118, 2, none⟩ = some (.string (⟨#[]⟩ : ByteArray)) := (blk_cell BK118.out 2).trans rfl; have hfz19_0 := blk_frozen BK118.out 0; have hfz19_1 := blk_frozen BK118.out 1; have hfz19_2 := blk_frozen BK118.out 2))
  refine bodyPost_ret (results_cell_row rfl _ _ gb118 33 #[.int .i64 4, .string a0_1, .string a0_2] (0, 0) _ rfl (by (with_reducible repeat (first | refine blk_drewN ?_ _ | refine blk_drew ?_ | refine blk_alloc ?_ _)); refine blk_put (cs := #[.int .i64 4, .string a0_1, .string (⟨#[]⟩ : ByteArray)]) ?_ 2 _ rfl; (with_reducible repeat (first | refine blk_drewN ?_ _ | refine blk_drew ?_ | refine blk_alloc ?_ _)); refine blk_put (cs := #[.int .i64 4, .string (⟨#[]⟩ : ByteArray), .string (⟨#[]⟩ : ByteArray)]) ?_ 1 _ rfl; (with_reducible repeat (first | refine blk_drewN ?_ _ | refine blk_drew ?_ | refine blk_alloc ?_ _)); refine blk_put (cs := #[.int .i64 0, .string (⟨#[]⟩ : ByteArray), .string (⟨#[]⟩ : ByteArray)]) ?_ 0 _ rfl; (with_reducible repeat (first | refine blk_drewN ?_ _ | refine blk_drew ?_ | refine blk_alloc ?_ _)); refine blk_far ?_ NB118_117.out _; (with_reducible repeat (first | refine blk_drewN ?_ _ | refine blk_drew ?_ | refine blk_alloc ?_ _)); exact BK118.out) Tryz.underlying33 rfl (by kernel_rfl)) rfl ?_
  exact ⟨eR, bO⟩
 rw [if_neg c14] at H
 have c14b0 : (a0_0 == 3) = false := beq_eq_false_iff_ne.mpr c14
 have c14b1 : (a0_0 != 3) = true := bne_iff_ne.mpr c14
 by_cases c20 : a0_0 = 4; rotate_left
 ·
  rw [if_neg c20] at H
  have c20b0 : (a0_0 == 4) = false := beq_eq_false_iff_ne.mpr c20
  have c20b1 : (a0_0 != 4) = true := bne_iff_ne.mpr c20
  simp only [Option.some.injEq, Prod.mk.injEq] at H
  obtain ⟨rfl, rfl, rfl⟩ := H
  go_enter Tryz.func30, Tryz.ntmps30
  go_wp2_with (first | ((with_reducible refine gate_dst (N := 1) rfl ?_); refine box_event ?hg (N := 1) ?hd (cs := #[.int .i64 a0_0, .string a0_1, .string a0_2]) (t := 33) ?hr ?_; (case hd => rfl); (case hg => rfl); (case hr => first | (go_simp; done) | (go_simp; rfl)); intro gb117 hg w26 hbox hb; have n0_ := Aside0.mk (below_step bO hb); have n1_ := Aside0.mk (hbox); have n2_ := Aside0.mk ((by rw [hg]; exact (below_size bO) : w.heap.size ≤ gb117)); have n3_ := Aside0.mk ((by rw [hg]; exact (below_size bO) : w.heap.size ≤ gb117)); clear HB; have HB := n0_; have BK117 := n1_; have GW117 := n2_; have GE117 := n3_; clear n0_ n1_ n2_ n3_; clear hb hbox hg) | ((with_reducible refine gate_dst (N := 2) rfl ?_); refine box_event ?hg (N := 2) ?hd (cs := #[.int .i64 0, .string (⟨#[]⟩ : ByteArray), .string (⟨#[]⟩ : ByteArray)]) (t := 33) ?hr ?_; (case hd => rfl); (case hg => rfl); (case hr => first | (go_simp; done) | (go_simp; rfl)); intro gb118 hg w27 hbox hb; have n0_ := Aside0.mk (blk_below (g := gb117) (o := .cells #[.int .i64 a0_0, .string a0_1, .string a0_2] 33 (0, 0)) bK hb); have n1_ := Aside0.mk (below_step bO hb); have n2_ := Aside0.mk (hbox); have n3_ := Aside0.mk ((by rw [hg]; exact (below_size bO) : w.heap.size ≤ gb118)); have n4_ := Aside0.mk ((by rw [hg]; exact (below_size bO) : w.heap.size ≤ gb118)); have n5_ := Aside0.mk ((by rw [hg]; exact Nat.ne_of_lt (blk_lt (g := gb117) (o := .cells #[.int .i64 a0_0, .string a0_1, .string a0_2] 33 (0, 0)) bK) : gb117 ≠ gb118)); have n6_ := Aside0.mk ((by rw [hg]; exact Nat.ne_of_gt (blk_lt (g := gb117) (o := .cells #[.int .i64 a0_0, .string a0_1, .string a0_2] 33 (0, 0)) bK) : gb118 ≠ gb117)); clear BK117; clear HB; have BK117 := n0_; have HB := n1_; have BK118 := n2_; have GW118 := n3_; have GE118 := n4_; have NB117_118 := n5_; have NB118_117 := n6_; clear n0_ n1_ n2_ n3_ n4_ n5_ n6_; clear hb hbox hg; have hnb28 := NB117_118.out; have hnc28 := NB118_117.out; have hcz29_0 : w27.cell? ⟨gb117, 0, none⟩ = some (.int .i64 a0_0) := (blk_cell BK117.out 0).trans rfl; have hcz29_1 : w27.cell? ⟨gb117, 1, none⟩ = some (.string a0_1) := (blk_cell BK117.out 1).trans rfl; have hcz29_2 : w27.cell? ⟨gb117, 2, none⟩ = some (.string a0_2) := (blk_cell BK117.out 2).trans rfl; have hfz29_0 := blk_frozen BK117.out 0; have hfz29_1 := blk_frozen BK117.out 1; have hfz29_2 := blk_frozen BK117.out 2; have hcz30_0 : w27.cell? ⟨gb118, 0, none⟩ = some (.int .i64 0) := (blk_cell BK118.out 0).trans rfl; have hcz30_1 : w27.cell? ⟨gb118, 1, none⟩ = some (.string (⟨#[]⟩ : ByteArray)) := (blk_cell BK118.out 1).trans rfl; have hcz30_2 : w27.cell? ⟨gb118, 2, none⟩ = some (.string (⟨#[]⟩ : ByteArray)) := (blk_cell BK118.out 2).trans rfl; have hfz30_0 := blk_frozen BK118.out 0; have hfz30_1 := blk_frozen BK118.out 1; have hfz30_2 := blk_frozen BK118.out 2))
  refine bodyPost_ret (results_cell_row rfl _ _ gb118 33 #[.int .i64 a0_0, .string a0_1, .string a0_2] (0, 0) _ rfl (by (with_reducible repeat (first | refine blk_drewN ?_ _ | refine blk_drew ?_ | refine blk_alloc ?_ _)); refine blk_put (cs := #[.int .i64 a0_0, .string a0_1, .string (⟨#[]⟩ : ByteArray)]) ?_ 2 _ rfl; (with_reducible repeat (first | refine blk_drewN ?_ _ | refine blk_drew ?_ | refine blk_alloc ?_ _)); refine blk_put (cs := #[.int .i64 a0_0, .string (⟨#[]⟩ : ByteArray), .string (⟨#[]⟩ : ByteArray)]) ?_ 1 _ rfl; (with_reducible repeat (first | refine blk_drewN ?_ _ | refine blk_drew ?_ | refine blk_alloc ?_ _)); refine blk_put (cs := #[.int .i64 0, .string (⟨#[]⟩ : ByteArray), .string (⟨#[]⟩ : ByteArray)]) ?_ 0 _ rfl; (with_reducible repeat (first | refine blk_drewN ?_ _ | refine blk_drew ?_ | refine blk_alloc ?_ _)); exact BK118.out) Tryz.underlying33 rfl (by kernel_rfl)) rfl ?_
  exact ⟨eR, bO⟩
 rw [if_pos c20] at H
 have c20b0 : (a0_0 == 4) = true := beq_iff_eq.mpr c20
 have c20b1 : (a0_0 != 4) = false := bne_eq_false_iff_eq.mpr c20
 clear c20
 simp only [Option.some.injEq, Prod.mk.injEq] at H
 obtain ⟨rfl, rfl, rfl⟩ := H
 go_enter Tryz.func30, Tryz.ntmps30
 go_wp2_with (first | ((with_reducible refine gate_dst (N := 1) rfl ?_); refine box_event ?hg (N := 1) ?hd (cs := #[.int .i64 a0_0, .string a0_1, .string a0_2]) (t := 33) ?hr ?_; (case hd => rfl); (case hg => rfl); (case hr => first | (go_simp; done) | (go_simp; rfl)); intro gb117 hg w21 hbox hb; have n0_ := Aside0.mk (below_step bO hb); have n1_ := Aside0.mk (hbox); have n2_ := Aside0.mk ((by rw [hg]; exact (below_size bO) : w.heap.size ≤ gb117)); have n3_ := Aside0.mk ((by rw [hg]; exact (below_size bO) : w.heap.size ≤ gb117)); clear HB; have HB := n0_; have BK117 := n1_; have GW117 := n2_; have GE117 := n3_; clear n0_ n1_ n2_ n3_; clear hb hbox hg) | ((with_reducible refine gate_dst (N := 2) rfl ?_); refine box_event ?hg (N := 2) ?hd (cs := #[.int .i64 0, .string (⟨#[]⟩ : ByteArray), .string (⟨#[]⟩ : ByteArray)]) (t := 33) ?hr ?_; (case hd => rfl); (case hg => rfl); (case hr => first | (go_simp; done) | (go_simp; rfl)); intro gb118 hg w22 hbox hb; have n0_ := Aside0.mk (blk_below (g := gb117) (o := .cells #[.int .i64 a0_0, .string a0_1, .string a0_2] 33 (0, 0)) bK hb); have n1_ := Aside0.mk (below_step bO hb); have n2_ := Aside0.mk (hbox); have n3_ := Aside0.mk ((by rw [hg]; exact (below_size bO) : w.heap.size ≤ gb118)); have n4_ := Aside0.mk ((by rw [hg]; exact (below_size bO) : w.heap.size ≤ gb118)); have n5_ := Aside0.mk ((by rw [hg]; exact Nat.ne_of_lt (blk_lt (g := gb117) (o := .cells #[.int .i64 a0_0, .string a0_1, .string a0_2] 33 (0, 0)) bK) : gb117 ≠ gb118)); have n6_ := Aside0.mk ((by rw [hg]; exact Nat.ne_of_gt (blk_lt (g := gb117) (o := .cells #[.int .i64 a0_0, .string a0_1, .string a0_2] 33 (0, 0)) bK) : gb118 ≠ gb117)); clear BK117; clear HB; have BK117 := n0_; have HB := n1_; have BK118 := n2_; have GW118 := n3_; have GE118 := n4_; have NB117_118 := n5_; have NB118_117 := n6_; clear n0_ n1_ n2_ n3_ n4_ n5_ n6_; clear hb hbox hg; have hnb23 := NB117_118.out; have hnc23 := NB118_117.out; have hcz24_0 : w22.cell? ⟨gb117, 0, none⟩ = some (.int .i64 a0_0) := (blk_cell BK117.out 0).trans rfl; have hcz24_1 : w22.cell? ⟨gb117, 1, none⟩ = some (.string a0_1) := (blk_cell BK117.out 1).trans rfl; have hcz24_2 : w22.cell? ⟨gb117, 2, none⟩ = some (.string a0_2) := (blk_cell BK117.out 2).trans rfl; have hfz24_0 := blk_frozen BK117.out 0; have hfz24_1 := blk_frozen BK117.out 1; have hfz24_2 := blk_frozen BK117.out 2; have hcz25_0 : w22.cell? ⟨gb118, 0, none⟩ = some (.int .i64 0) := (blk_cell BK118.out 0).trans rfl; have hcz25_1 : w22.cell? ⟨gb118, 1, none⟩ = some (.string (⟨#[]⟩ : ByteArray)) := (blk_cell BK118.out 1).trans rfl; have hcz25_2 : w22.cell? ⟨gb118, 2, none⟩ = some (.string (⟨#[]⟩ : ByteArray)) := (blk_cell BK118.out 2).trans rfl; have hfz25_0 := blk_frozen BK118.out 0; have hfz25_1 := blk_frozen BK118.out 1; have hfz25_2 := blk_frozen BK118.out 2))
 refine bodyPost_ret (results_cell_row rfl _ _ gb118 33 #[.int .i64 3, .string a0_1, .string a0_2] (0, 0) _ rfl (by (with_reducible repeat (first | refine blk_drewN ?_ _ | refine blk_drew ?_ | refine blk_alloc ?_ _)); refine blk_put (cs := #[.int .i64 3, .string a0_1, .string (⟨#[]⟩ : ByteArray)]) ?_ 2 _ rfl; (with_reducible repeat (first | refine blk_drewN ?_ _ | refine blk_drew ?_ | refine blk_alloc ?_ _)); refine blk_put (cs := #[.int .i64 3, .string (⟨#[]⟩ : ByteArray), .string (⟨#[]⟩ : ByteArray)]) ?_ 1 _ rfl; (with_reducible repeat (first | refine blk_drewN ?_ _ | refine blk_drew ?_ | refine blk_alloc ?_ _)); refine blk_put (cs := #[.int .i64 0, .string (⟨#[]⟩ : ByteArray), .string (⟨#[]⟩ : ByteArray)]) ?_ 0 _ rfl; (with_reducible repeat (first | refine blk_drewN ?_ _ | refine blk_drew ?_ | refine blk_alloc ?_ _)); refine blk_far ?_ NB118_117.out _; (with_reducible repeat (first | refine blk_drewN ?_ _ | refine blk_drew ?_ | refine blk_alloc ?_ _)); exact BK118.out) Tryz.underlying33 rfl (by kernel_rfl)) rfl ?_
 exact ⟨eR, bO⟩
end Go.Proofs.YtkedidjjhhjdbaaGreatDoor.Pr
end
