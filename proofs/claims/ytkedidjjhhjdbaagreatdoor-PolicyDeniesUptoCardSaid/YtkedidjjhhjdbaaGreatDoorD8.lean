import Derived.Test.YtkedidjjhhjdbaaGreatDoorD0
import Derived.Test.YtkedidjjhhjdbaaGreatDoorD5
import Derived.Test.YtkedidjjhhjdbaaGreatDoorD7
import Derived.Test.YtkedidjjhhjdbaaGreatDoorD6
import Derived.Maps.OwnSet
section
set_option linter.unusedVariables false
set_option linter.unusedSimpArgs false
namespace Go.Proofs.YtkedidjjhhjdbaaGreatDoor.Pr
open Go.RowKit Go.Proofs.YtkedidjjhhjdbaaGreatDoorW.PrintWords Go.Proofs.YtkedidjjhhjdbaaGreatDoorW.PrintLast Go.Proofs.YtkedidjjhhjdbaaGreatDoorW.PrintMore
def keysOf (l : List ByteArray) : List Lit := l.map fun s => .string s.data.toList
def distinctN (l : List ByteArray) : Nat := ((keysOf l).foldl Go.Maps.addKey []).length
def metSet {H : Type} (l : List ByteArray) : DataW H := Go.Maps.setOf (.lit (.bool true)) (keysOf l)
theorem metSet_snoc {H : Type} (l : List ByteArray) (k : Nat) (x : ByteArray) (hx : l[k]? = some x) : metSet (H := H) (l.take (k + 1)) = (metSet (l.take k)).put (.string x.data.toList) (.lit (.bool true)) := by
 unfold metSet keysOf
 rw [List.take_add_one, hx]; simp only [Option.toList_some, List.map_append, List.map_cons, List.map_nil]; rw [Go.Maps.setOf_snoc]
theorem metSet_nil {H : Type} (l : List ByteArray) : metSet (H := H) (l.take 0) = .map [] := by simp [metSet, keysOf, Go.Maps.setOf]
theorem metSet_size {H : Type} (l : List ByteArray) : Go.Maps.size (metSet (H := H) l) = distinctN l := by
 unfold metSet distinctN
 refine Go.Maps.size_setOf _ _ ?_
 intro x hx
 obtain ⟨s, _, rfl⟩ := List.mem_map.1 hx
 simp [WideAt.IsKeyLit]
def policy_Right.bad (tn : ByteArray) : Option Bool := if tn.toList = ([42] : List UInt8) then some false else (policy_name.f tn).bind fun b => some (!b)
def policy_Right.rest (k : Nat) (d : Bool) (l3 : List S33) (l4 : List ByteArray) : Option Int :=
  (attr_RightMatch.f k l3).bind fun why =>
    if why = 0 then
      (if d = true ∧ ((l3.length : Int) > 1 ∨ (l4.length : Int) > 0) then some 110
      else if (l4.length : Int) > 16 then some 7
      else (slices_ContainsFunc_string_string.f k l4).bind fun b =>
        if b = true then some 40
        else if l4.all (fun s => decide (s.size ≤ 9223372036854775807)) = true then (if (distinctN l4 : Int) < (l4.length : Int) then some 6 else some 0) else none)
    else some why
def policy_Right.f (k : Nat) (d : Bool) (kd : Int) (tn : ByteArray) (l3 : List S33) (l4 : List ByteArray) : Option Int :=
  (policy_Kind.f kd).bind fun t => if t.toList = ([] : List UInt8) then some 1 else (policy_Right.bad tn).bind fun bad => if bad = true then some 100 else policy_Right.rest k d l3 l4
structure RtI (w : World) (cs : Array Value) (W : World) : Prop where
  bk : W.heap[w.heap.size]? = some (.cells cs 46 (0, 0))
  be : Below w.heap.size w W
theorem RtI.below {w W W' : World} {cs : Array Value} (h : RtI w cs W) (hb : Below W.heap.size W W') : RtI w cs W' := ⟨blk_below h.bk hb, h.be.trans (hb.mono h.be.size)⟩
theorem RtI.drewN {w W : World} {cs : Array Value} (h : RtI w cs W) (n : Nat) : RtI w cs (W.drewN n) := ⟨h.bk, pw_below_drewN h.be n⟩
theorem RtI.cell {w W : World} {cs : Array Value} (h : RtI w cs W) (i : Nat) (v : Value) (hv : cs[i]? = some v) : W.cell? ⟨w.heap.size, i, none⟩ = some v := (blk_cell h.bk i).trans hv
theorem RtI.grown {w W W' : World} {cs : Array Value} {b : Nat} (h : RtI w cs W) (hg : W.grownBy W' (some b)) (hb : w.heap.size < b) : RtI w cs W' :=
 ⟨blk_grown h.bk hg (by simp; omega), h.be.grown hg h.be.size (fun j hj => by cases hj; omega)⟩
theorem law9 : Go.Maps.Keyed Tryz.prog 9 := Go.Maps.string_keyed Tryz.underlying9
set_option maxHeartbeats 8000000 in
set_option maxRecDepth 100000 in
theorem policy_Right.calls (k : Nat) (d : Bool) (kd : Int) (tn : ByteArray) (A3 : Option Addr) (c3 : Nat) (l3 : List S33) (A4 : Option Addr) (c4 : Nat) (l4 : List ByteArray) (r : Int) (w : World)
  (hr3 : Kd.C k33 w A3 l3.length l3) (hc3 : l3.length ≤ c3) (hr4 : Kd.C Kd.string w A4 l4.length l4) (hc4 : l4.length ≤ c4) (h : policy_Right.f k d kd tn l3 l4 = some r)
  (he_ : EnvW w := by repeat (first | with_reducible assumption | with_reducible exact env_of (by with_reducible assumption) (by with_reducible assumption) | with_reducible exact env_out (by with_reducible assumption) | with_reducible apply env_alloc | with_reducible apply env_drewN | with_reducible apply env_drew | with_reducible refine env_set ?_ (by with_reducible assumption) (by with_reducible assumption))) :
  Calls Tryz.prog 22 #[.agg #[.bool d, .int .i64 kd, .string tn, .slice A3 l3.length c3, .slice A4 l4.length c4]] w fun e w' => e = .returned (.int .i64 r) ∧ Below w.heap.size w w' := by
 unfold policy_Right.f at h
 obtain ⟨t, ht, h⟩ := Option.bind_eq_some_iff.mp h
 have hmm := @run_makeMap Tryz.prog; have HR3 := Aside0.mk hr3; have HR4 := Aside0.mk hr4; have HE := Aside0.mk he_; have HT := Aside0.mk ht; have HH := Aside0.mk h; clear hr3 hr4 he_ ht h
 go_enter Tryz.func22, Tryz.ntmps22
 go_wp2_with fail
 have HI : Aside0 (RtI w #[.bool d, .int .i64 kd, .string tn, .slice A3 l3.length c3, .slice A4 l4.length c4] (w.alloc (.cells #[.bool d, .int .i64 kd, .string tn, .slice A3 l3.length c3, .slice A4 l4.length c4] 46))) := ⟨⟨blk_new _ _, (Below.refl _ _).alloc (Nat.le_refl _) _⟩⟩
 generalize w.alloc (.cells #[.bool d, .int .i64 kd, .string tn, .slice A3 l3.length c3, .slice A4 l4.length c4] 46) = W0 at HI ⊢
 refine (policy_Kind.calls kd t _ HT.out).mono ?_
 rintro e w1 ⟨rfl, ⟨nd, rfl⟩⟩
 replace HI := Aside0.mk (HI.out.drewN nd)
 generalize W0.drewN nd = W1 at HI ⊢
 clear HT; by_cases c1 : t.toList = ([] : List UInt8)
 ·
  have h := HH.out; rw [if_pos c1] at h
  obtain rfl := Option.some.inj h
  have c1b0 : (t.toList == ([] : List UInt8)) = true := beq_iff_eq.mpr c1
  clear c1 h HH; go_wp2; go_ret
  exact ⟨rfl, HI.out.be⟩
 have h := HH.out; rw [if_neg c1] at h
 have c1b0 : (t.toList == ([] : List UInt8)) = false := beq_eq_false_iff_ne.mpr c1
 obtain ⟨bad, hb, h⟩ := Option.bind_eq_some_iff.mp h
 have HB := Aside0.mk hb; have HH := Aside0.mk h; clear c1 h hb; have hx2 := HI.out.cell 2 (.string tn) rfl
 go_upto_region 3 with (fail)
 go_cut [12] (fun v12 wc => v12 = .bool bad ∧ Aside0 (RtI w #[.bool d, .int .i64 kd, .string tn, .slice A3 l3.length c3, .slice A4 l4.length c4] wc))
 case first =>
  have hb := HB.out
  unfold policy_Right.bad at hb
  by_cases c2 : tn.toList = ([42] : List UInt8)
  ·
   rw [if_pos c2] at hb
   obtain rfl := Option.some.inj hb
   have c2b0 : (tn.toList == ([42] : List UInt8)) = true := beq_iff_eq.mpr c2
   have c2b1 : (tn.toList != ([42] : List UInt8)) = false := bne_eq_false_iff_eq.mpr c2
   clear c2 hb; go_wp2
   go_meet
   case rel => exact ⟨rfl, HI⟩
  rw [if_neg c2] at hb
  obtain ⟨b, hb1, hb2⟩ := Option.bind_eq_some_iff.mp hb
  obtain rfl := Option.some.inj hb2
  have c2b0 : (tn.toList == ([42] : List UInt8)) = false := beq_eq_false_iff_ne.mpr c2
  have c2b1 : (tn.toList != ([42] : List UInt8)) = true := bne_iff_ne.mpr c2
  have HB1 := Aside0.mk hb1; clear c2 hb hb1 hb2
  go_wp2_with fail
  refine (policy_name.calls tn b _ HB1.out).mono ?_
  rintro e w2 ⟨rfl, hbl⟩
  have HI2 := Aside0.mk (HI.out.below hbl); clear hbl HI hx2; go_wp2
  go_meet
  case rel => exact ⟨rfl, HI2⟩
 clear HI hx2 HB
 obtain ⟨rfl, HI⟩ := hcut
 have h := HH.out; clear HH; by_cases c3 : bad = true
 ·
  subst c3; rw [if_pos rfl] at h
  obtain rfl := Option.some.inj h
  clear h; go_wp2; go_ret
  exact ⟨rfl, HI.out.be⟩
 rw [if_neg c3] at h
 obtain rfl : bad = false := Bool.eq_false_iff.mpr c3
 clear c3
 unfold policy_Right.rest at h
 obtain ⟨why, hw, h⟩ := Option.bind_eq_some_iff.mp h
 have HW := Aside0.mk hw; have HH := Aside0.mk h; clear hw h; have hx3 := HI.out.cell 3 (.slice A3 l3.length c3) rfl
 go_wp2_with fail
 refine (attr_RightMatch.calls k A3 c3 l3 why _ (Kd.C_below HR3.out HI.out.be) hc3 HW.out (env_below HE.out HI.out.be)).mono ?_
 rintro e w3 ⟨rfl, hbl⟩
 have HI3 := Aside0.mk (HI.out.below hbl); clear hbl HI hx3 HW; have h := HH.out; clear HH; by_cases c4 : why = 0; rotate_left
 ·
  rw [if_neg c4] at h
  obtain rfl := Option.some.inj h
  have c4b0 : (why != 0) = true := bne_iff_ne.mpr c4
  clear h c4; go_wp2; go_ret
  exact ⟨rfl, HI3.out.be⟩
 subst c4; rw [if_pos rfl] at h; have HH := Aside0.mk h; clear h; have hx0 := HI3.out.cell 0 (.bool d) rfl; have hx3 := HI3.out.cell 3 (.slice A3 l3.length c3) rfl; have hx4 := HI3.out.cell 4 (.slice A4 l4.length c4) rfl
 go_upto_region 8 with (fail)
 go_cut [28] (fun v28 wc => v28 = .bool (decide (d = true ∧ ((l3.length : Int) > 1 ∨ (l4.length : Int) > 0))) ∧ Aside0 (RtI w #[.bool d, .int .i64 kd, .string tn, .slice A3 l3.length c3, .slice A4 l4.length c4] wc))
 case first =>
  clear HH; by_cases d1 : d = true; rotate_left
  ·
   obtain rfl : d = false := Bool.eq_false_iff.mpr d1
   have E3 : Aside0 (decide (false = true ∧ ((l3.length : Int) > 1 ∨ (l4.length : Int) > 0)) = false) := ⟨decide_eq_false (fun hh => by simp at hh)⟩
   clear d1; go_wp2
   go_meet
   case rel => exact ⟨by rw [E3.out], HI3⟩
  subst d1; by_cases d2 : (l3.length : Int) > 1
  ·
   have e1 : decide (1 < (l3.length : Int)) = true := decide_eq_true d2
   have e2 : decide (1 < l3.length) = true := decide_eq_true (by omega)
   have E3 : Aside0 (decide (true = true ∧ ((l3.length : Int) > 1 ∨ (l4.length : Int) > 0)) = true) := ⟨decide_eq_true ⟨rfl, .inl d2⟩⟩
   clear d2; go_wp2
   go_meet
   case rel => exact ⟨by rw [E3.out], HI3⟩
  have e1 : decide (1 < (l3.length : Int)) = false := decide_eq_false d2
  have e2 : decide (1 < l3.length) = false := decide_eq_false (by omega)
  by_cases d3 : (l4.length : Int) > 0
  ·
   have e4 : decide (0 < (l4.length : Int)) = true := decide_eq_true d3
   have e5 : decide (0 < l4.length) = true := decide_eq_true (by omega)
   have E3 : Aside0 (decide (true = true ∧ ((l3.length : Int) > 1 ∨ (l4.length : Int) > 0)) = true) := ⟨decide_eq_true ⟨rfl, .inr d3⟩⟩
   clear d2 d3; go_wp2
   go_meet
   case rel => exact ⟨by rw [E3.out], HI3⟩
  have e4 : decide (0 < (l4.length : Int)) = false := decide_eq_false d3
  have e5 : decide (0 < l4.length) = false := decide_eq_false (by omega)
  have E3 : Aside0 (decide (true = true ∧ ((l3.length : Int) > 1 ∨ (l4.length : Int) > 0)) = false) := ⟨decide_eq_false (fun hh => hh.2.elim d2 d3)⟩
  clear d2 d3; go_wp2
  go_meet
  case rel => exact ⟨by rw [E3.out], HI3⟩
 clear HI3 hx0 hx3 hx4
 obtain ⟨rfl, HI⟩ := hcut
 have h := HH.out; clear HH; by_cases c5 : d = true ∧ ((l3.length : Int) > 1 ∨ (l4.length : Int) > 0)
 ·
  rw [if_pos c5] at h
  obtain rfl := Option.some.inj h
  rw [decide_eq_true c5]; clear h c5; go_wp2; go_ret
  exact ⟨rfl, HI.out.be⟩
 rw [if_neg c5] at h; rw [decide_eq_false c5]; clear c5; have hx4 := HI.out.cell 4 (.slice A4 l4.length c4) rfl; by_cases c6 : (l4.length : Int) > 16
 ·
  rw [if_pos c6] at h
  obtain rfl := Option.some.inj h
  have e1 : decide (16 < (l4.length : Int)) = true := decide_eq_true c6
  have e2 : decide (16 < l4.length) = true := decide_eq_true (by omega)
  clear h c6; go_wp2; go_ret
  exact ⟨rfl, HI.out.be⟩
 rw [if_neg c6] at h
 have e1 : decide (16 < (l4.length : Int)) = false := decide_eq_false c6
 have e2 : decide (16 < l4.length) = false := decide_eq_false (by omega)
 have hl4 : l4.length ≤ 16 := by omega
 clear c6
 obtain ⟨b, hb, h⟩ := Option.bind_eq_some_iff.mp h
 have HB := Aside0.mk hb; have HH := Aside0.mk h; clear hb h
 go_wp2_with fail
 refine (slices_ContainsFunc_string_string.calls k A4 c4 l4 b _ (Kd.C_below HR4.out HI.out.be) hc4 HB.out).mono ?_
 rintro e w4 ⟨rfl, ⟨nd4, rfl⟩⟩
 replace HI := Aside0.mk (HI.out.drewN nd4)
 clear HB hx4; have hx4 := HI.out.cell 4 (.slice A4 l4.length c4) rfl; have h := HH.out; clear HH; by_cases c7 : b = true
 ·
  subst c7; rw [if_pos rfl] at h
  obtain rfl := Option.some.inj h
  clear h; go_wp2; go_ret
  exact ⟨rfl, HI.out.be⟩
 rw [if_neg c7] at h
 obtain rfl : b = false := Bool.eq_false_iff.mpr c7
 clear c7
 by_cases c8 : l4.all (fun s => decide (s.size ≤ 9223372036854775807)) = true
 rotate_left
 · rw [if_neg c8] at h; cases h
 rw [if_pos c8] at h; have HH := Aside0.mk h; have HS := Aside0.mk c8; clear h c8
 go_upto_region 14 with (fail)
 clear hx4
 generalize wc.drewN nd4 = W5 at HI ⊢
 have hx4 : (W5.alloc (.map #[] 0)).cell? ⟨w.heap.size, 4, none⟩ = some (.slice A4 l4.length c4) := (HI.out.below ((Below.refl _ _).alloc (Nat.le_refl _) _)).cell 4 (.slice A4 l4.length c4) rfl
 have hM : w.heap.size < W5.heap.size := blk_lt HI.out.bk
 go_wp2
 go_loopw [56] (fun i wr => ∃ j : Nat, j ≤ l4.length ∧ i = .int .i64 j ∧ Aside0 (wr.ownsMap Tryz.prog 9 (plainElem (H := Unit) Tryz.prog 4) W5.heap.size j (metSet (l4.take j))) ∧ Aside0 (RtI w #[.bool d, .int .i64 kd, .string tn, .slice A3 l3.length c3, .slice A4 l4.length c4] wr)) (fun i _ => l4.length - (intOf i).toNat)
 case atStart => exact ⟨0, Nat.zero_le _, rfl, ⟨by rw [metSet_nil]; exact World.ownsMap_made _ _ _ _⟩, ⟨HI.out.below ((Below.refl _ _).alloc (Nat.le_refl _) _)⟩⟩
 case round =>
  clear HI hx4
  obtain ⟨j, hj, rfl, HO, HI⟩ := hrel
  by_cases hlt : j < l4.length; rotate_left
  ·
   obtain rfl : j = l4.length := by omega
   have c9b0 : decide ((l4.length : Int) < (l4.length : Int)) = false := decide_eq_false (by omega)
   have c9b1 : decide (l4.length < l4.length) = false := decide_eq_false hlt
   have hx4 := HI.out.cell 4 (.slice A4 l4.length c4) rfl
   have hsz : Go.Maps.size (metSet (H := Unit) (l4.take l4.length)) = distinctN l4 := by rw [List.take_length, metSet_size]
   have h := HH.out; clear HH; by_cases c10 : (distinctN l4 : Int) < (l4.length : Int)
   ·
    rw [if_pos c10] at h
    obtain rfl := Option.some.inj h
    have c10b0 : decide ((distinctN l4 : Int) < (l4.length : Int)) = true := decide_eq_true c10
    have c10b1 : decide (distinctN l4 < l4.length) = true := decide_eq_true (by omega)
    clear h c10 hlt
    go_wp2_with (first
     | (at_len; refine wpList_len_own _ rfl _ 91 rfl 9 4 Tryz.underlying91 _ W5.heap.size _ _ rfl HO.out ?_; rw [hsz])
     | go_in)
    go_ret
    exact ⟨rfl, HI.out.be⟩
   rw [if_neg c10] at h
   obtain rfl := Option.some.inj h
   have c10b0 : decide ((distinctN l4 : Int) < (l4.length : Int)) = false := decide_eq_false c10
   have c10b1 : decide (distinctN l4 < l4.length) = false := decide_eq_false (by omega)
   clear h c10 hlt
   go_wp2_with (first
    | (at_len; refine wpList_len_own _ rfl _ 91 rfl 9 4 Tryz.underlying91 _ W5.heap.size _ _ rfl HO.out ?_; rw [hsz])
    | go_in)
   go_ret
   exact ⟨rfl, HI.out.be⟩
  have c9b0 : decide ((j : Int) < (l4.length : Int)) = true := decide_eq_true (by omega)
  have c9b1 : decide (j < l4.length) = true := decide_eq_true hlt
  have p9 : (0 : Int) ≤ (j : Int) := by omega
  have q9 : (j : Int) < (l4.length : Int) := by omega
  obtain ⟨ad, e9, hx9⟩ := Kd.at_string (Kd.C_below HR4.out HI.out.be) (j : Int) p9 q9
  cases e9; rw [Int.toNat_natCast] at hx9
  have hg : l4[j]? = some (rdOf ByteArray.empty l4 (j : Int)) := by
   unfold rdOf
   rw [List.getElem?_eq_getElem hlt]
   simp [List.getD, List.getElem?_eq_getElem hlt]
  have hkey : keyOf Tryz.prog 9 (.string (rdOf ByteArray.empty l4 (j : Int))) = some (.string (rdOf ByteArray.empty l4 (j : Int)).data.toList) := by
   refine Go.WideMaps.keyOf_string_mk Tryz.underlying9 ?_
   have := List.all_eq_true.1 HS.out _ (List.mem_of_getElem? hg)
   unfold maxLen
   exact of_decide_eq_true this
  replace p9 := eq_true p9; replace q9 := eq_true q9
  go_wp2_with (first
   | (at_mapUpdate; refine wpList_mapUpdate_own _ rfl _ _ _ 91 rfl 9 4 law9 Tryz.underlying91 (plainElem (H := Unit) Tryz.prog 4) W5.heap.size j _ rfl HO.out (by unfold maxLen; omega) _ _ _ rfl rfl hkey _ [] (plainElem_bool Tryz.underlying4 true) ?_; intro w1 hown1 hgrow1)
   | go_in)
  go_roundw
  case rel => exact ⟨j + 1, hlt, by go_num, ⟨by rw [metSet_snoc l4 j _ hg]; exact hown1⟩, ⟨HI.out.grown hgrow1 hM⟩⟩
  case measure => simp [intOf]; omega
end Go.Proofs.YtkedidjjhhjdbaaGreatDoor.Pr
end
section
namespace Go.Proofs.YtkedidjjhhjdbaaGreatDoor.Pr
open Go.RowKit Go.Proofs.YtkedidjjhhjdbaaGreatDoorW.PrintWords Go.Proofs.YtkedidjjhhjdbaaGreatDoorW.PrintLast Go.Proofs.YtkedidjjhhjdbaaGreatDoorW.PrintMore
attribute [local go_sem] max2_int min2_int max_two min_two max_three min_three max_four min_four strGtr strLeq strGeq
set_option linter.unusedVariables false
set_option linter.unusedSimpArgs false
mutual
def belfryref11_Right.j0 : Nat → Bool → Bool → Int → ByteArray → List (S33) → List ByteArray → Option (Int)
  | 0, _, _, _, _, _, _ => none
  | k + 1, x14, x251000, x251001, x251002, x251003, x251004 => if x14 = true then (some 1) else (if x251002.toList = ([42] : List UInt8) then (belfryref11_Right.j1 k false x251000 x251001 x251002 x251003 x251004) else ((belfryref09_Name.f k x251002).bind fun t251 => (belfryref11_Right.j1 k (!t251) x251000 x251001 x251002 x251003 x251004)))
def belfryref11_Right.j1 : Nat → Bool → Bool → Int → ByteArray → List (S33) → List ByteArray → Option (Int)
  | 0, _, _, _, _, _, _ => none
  | k + 1, x23, x251000, x251001, x251002, x251003, x251004 => if x23 = true then (some 100) else ((belfryref04_RightMatch.f k x251003).bind fun t252 => (if t252 = 0 then (if x251000 = true then (if (x251003.length : Int) > 1 then (belfryref11_Right.j2 k true x251000 x251001 x251002 x251003 x251004) else (belfryref11_Right.j2 k (decide ((x251004.length : Int) > 0)) x251000 x251001 x251002 x251003 x251004)) else (belfryref11_Right.j2 k false x251000 x251001 x251002 x251003 x251004)) else (some t252)))
def belfryref11_Right.j2 : Nat → Bool → Bool → Int → ByteArray → List (S33) → List ByteArray → Option (Int)
  | 0, _, _, _, _, _, _ => none
  | k + 1, x43, x251000, x251001, x251002, x251003, x251004 => if x43 = true then (some 110) else (if (x251004.length : Int) > 16 then (some 7) else (belfryref11_Right.l0 k 0 x251000 x251001 x251002 x251003 x251004))
def belfryref11_Right.l0 : Nat → Int → Bool → Int → ByteArray → List (S33) → List ByteArray → Option (Int)
  | 0, _, _, _, _, _, _ => none
  | k + 1, x4, x251000, x251001, x251002, x251003, x251004 => if x4 < (x251004.length : Int) then (if 0 ≤ x4 then ((belfryref04_Key.f k (rdOf ByteArray.empty x251004 x4)).bind fun t254 => (if t254 = true then (belfryref11_Right.l0 k (wrap64 (x4 + 1)) x251000 x251001 x251002 x251003 x251004) else (some 40))) else (none)) else (belfryref11_Right.l1 k 0 x251000 x251001 x251002 x251003 x251004)
def belfryref11_Right.l1 : Nat → Int → Bool → Int → ByteArray → List (S33) → List ByteArray → Option (Int)
  | 0, _, _, _, _, _, _ => none
  | k + 1, x5, x251000, x251001, x251002, x251003, x251004 => if x5 < (x251004.length : Int) then (belfryref11_Right.l2 k x5 0 x251000 x251001 x251002 x251003 x251004) else (some 0)
def belfryref11_Right.l2 : Nat → Int → Int → Bool → Int → ByteArray → List (S33) → List ByteArray → Option (Int)
  | 0, _, _, _, _, _, _, _ => none
  | k + 1, x5, x6, x251000, x251001, x251002, x251003, x251004 => if x6 < x5 then (if 0 ≤ x5 then (if x5 < (x251004.length : Int) then (if 0 ≤ x6 then (if x6 < (x251004.length : Int) then (if (rdOf ByteArray.empty x251004 x5).toList = (rdOf ByteArray.empty x251004 x6).toList then (some 6) else (belfryref11_Right.l2 k x5 (wrap64 (x6 + 1)) x251000 x251001 x251002 x251003 x251004)) else (none)) else (none)) else (none)) else (none)) else (belfryref11_Right.l1 k (wrap64 (x5 + 1)) x251000 x251001 x251002 x251003 x251004)
end
def belfryref11_Right.f (k : Nat) (a0_0 : Bool) (a0_1 : Int) (a0_2 : ByteArray) (l0_3 : List (S33)) (l0_4 : List ByteArray) : Option (Int) := if a0_1 < 0 then (belfryref11_Right.j0 k true a0_0 a0_1 a0_2 l0_3 l0_4) else (belfryref11_Right.j0 k (decide (a0_1 > 3)) a0_0 a0_1 a0_2 l0_3 l0_4)
set_option maxHeartbeats 8000000 in
set_option maxRecDepth 100000 in
theorem belfryref11_Right.calls (k : Nat) (a0_0 : Bool) (a0_1 : Int) (a0_2 : ByteArray) (A0_3 : Option Addr) (c0_3 : Nat) (l0_3 : List (S33)) (A0_4 : Option Addr) (c0_4 : Nat) (l0_4 : List ByteArray) (r : Int) (w : World) (hr0_3 : Kd.C k33 w A0_3 l0_3.length l0_3) (hc0_3 : l0_3.length ≤ c0_3) (hr0_4 : Kd.C Kd.string w A0_4 l0_4.length l0_4) (hc0_4 : l0_4.length ≤ c0_4) (h : belfryref11_Right.f k a0_0 a0_1 a0_2 l0_3 l0_4 = some r) :
  Calls Tryz.prog 23 #[.agg #[.bool a0_0, .int .i64 a0_1, .string a0_2, .slice A0_3 l0_3.length c0_3, .slice A0_4 l0_4.length c0_4]] w fun e w' => e = .returned (.int .i64 r) ∧ Below w.heap.size w w' := by
 have hu46 := Tryz.underlying46; have HR0_3 := Aside0.mk hr0_3; have HC0_3 := Aside0.mk hc0_3; clear hr0_3 hc0_3; have HR0_4 := Aside0.mk hr0_4; have HC0_4 := Aside0.mk hc0_4; clear hr0_4 hc0_4; have HB := Aside0.mk (Below.refl w.heap.size w)
 have H : (if a0_1 < 0 then (belfryref11_Right.j0 k true a0_0 a0_1 a0_2 l0_3 l0_4) else (belfryref11_Right.j0 k (decide (a0_1 > 3)) a0_0 a0_1 a0_2 l0_3 l0_4)) = some r := h
 clear h; have HC2 := Aside0.mk H; clear H
 go_enter Tryz.func23, Tryz.ntmps23
 go_upto_region 1 with (first | ((with_reducible refine gate_dst (N := 1) rfl ?_); (try (refine gate_guard (by rfl) ?_; dsimp only)); refine box_event ?hg (N := 1) ?hd (cs := #[.bool a0_0, .int .i64 a0_1, .string a0_2, .slice A0_3 l0_3.length c0_3, .slice A0_4 l0_4.length c0_4]) (t := 46) ?hr ?_; (case hd => rfl); (case hg => rfl); (case hr => first | (go_simp; done) | (go_simp; rfl)); intro gb250 hg w3 hbox hb; have n0_ := Aside0.mk (below_step bO hb); have n1_ := Aside0.mk (hbox); have n2_ := Aside0.mk ((by rw [hg]; exact (below_size bO) : w.heap.size ≤ gb250)); have n3_ := Aside0.mk ((by rw [hg]; exact (below_size bO) : w.heap.size ≤ gb250)); clear HB; have HB := n0_; have BK250 := n1_; have GW250 := n2_; have GE250 := n3_; clear n0_ n1_ n2_ n3_; clear hb hbox hg))
 repeat (go_quiet (first | ((with_reducible refine gate_dst (N := 1) rfl ?_); (try (refine gate_guard (by rfl) ?_; dsimp only)); refine box_event ?hg (N := 1) ?hd (cs := #[.bool a0_0, .int .i64 a0_1, .string a0_2, .slice A0_3 l0_3.length c0_3, .slice A0_4 l0_4.length c0_4]) (t := 46) ?hr ?_; (case hd => rfl); (case hg => rfl); (case hr => first | (go_simp; done) | (go_simp; rfl)); intro gb250 hg w3 hbox hb; have n0_ := Aside0.mk (below_step bO hb); have n1_ := Aside0.mk (hbox); have n2_ := Aside0.mk ((by rw [hg]; exact (below_size bO) : w.heap.size ≤ gb250)); have n3_ := Aside0.mk ((by rw [hg]; exact (below_size bO) : w.heap.size ≤ gb250)); clear HB; have HB := n0_; have BK250 := n1_; have GW250 := n2_; have GE250 := n3_; clear n0_ n1_ n2_ n3_; clear hb hbox hg)); go_upto_region 1 with (first | ((with_reducible refine gate_dst (N := 1) rfl ?_); (try (refine gate_guard (by rfl) ?_; dsimp only)); refine box_event ?hg (N := 1) ?hd (cs := #[.bool a0_0, .int .i64 a0_1, .string a0_2, .slice A0_3 l0_3.length c0_3, .slice A0_4 l0_4.length c0_4]) (t := 46) ?hr ?_; (case hd => rfl); (case hg => rfl); (case hr => first | (go_simp; done) | (go_simp; rfl)); intro gb250 hg w3 hbox hb; have n0_ := Aside0.mk (below_step bO hb); have n1_ := Aside0.mk (hbox); have n2_ := Aside0.mk ((by rw [hg]; exact (below_size bO) : w.heap.size ≤ gb250)); have n3_ := Aside0.mk ((by rw [hg]; exact (below_size bO) : w.heap.size ≤ gb250)); clear HB; have HB := n0_; have BK250 := n1_; have GW250 := n2_; have GE250 := n3_; clear n0_ n1_ n2_ n3_; clear hb hbox hg)))
 (try simp only [Act.put, List.setIfInBounds_toArray, List.set_cons_zero, List.set_cons_succ])
 go_cut [14] (fun v14 wc => ∃ (kq : Nat) (x14_1 : Bool), v14 = .bool x14_1 ∧ Aside0 (belfryref11_Right.j0 kq x14_1 a0_0 a0_1 a0_2 l0_3 l0_4 = some r) ∧ Aside0 (kq ≤ k) ∧ Aside0 (wc.heap[gb250]? = some (.cells #[.bool a0_0, .int .i64 a0_1, .string a0_2, (.slice A0_3 l0_3.length c0_3), (.slice A0_4 l0_4.length c0_4)] 46 (0, 0))) ∧ Aside0 (Below w.heap.size w wc))
 case first =>
  have H := HC2.out; clear HC2; by_cases c4 : a0_1 < 0
  ·
   rw [if_pos c4] at H
   have c4b0 : decide (a0_1 < 0) = true := decide_eq_true c4
   clear c4
   (first | rw [c4b0] | (simp only [i64_w, i32_w]; rw [c4b0]) | skip)
   have H' := Aside0.mk H; clear H
   have hcz5_0 : w3.cell? ⟨gb250, 0, none⟩ = some (.bool a0_0) := (blk_cell BK250.out 0).trans rfl
   have hcz5_1 : w3.cell? ⟨gb250, 1, none⟩ = some (.int .i64 a0_1) := (blk_cell BK250.out 1).trans rfl
   have hcz5_2 : w3.cell? ⟨gb250, 2, none⟩ = some (.string a0_2) := (blk_cell BK250.out 2).trans rfl
   have hcz5_3 : w3.cell? ⟨gb250, 3, none⟩ = some (.slice A0_3 l0_3.length c0_3) := (blk_cell BK250.out 3).trans rfl
   have hcz5_4 : w3.cell? ⟨gb250, 4, none⟩ = some (.slice A0_4 l0_4.length c0_4) := (blk_cell BK250.out 4).trans rfl
   have hfz5_0 := blk_frozen BK250.out 0; have hfz5_1 := blk_frozen BK250.out 1; have hfz5_2 := blk_frozen BK250.out 2; have hfz5_3 := blk_frozen BK250.out 3; have hfz5_4 := blk_frozen BK250.out 4; go_wp2
   repeat (go_quiet (fail); try go_wp2)
   go_meet
   case rel => exact ⟨_, (true), sR, H', ⟨by first | omega | exact Nat.le_refl _⟩, ⟨by (with_reducible repeat (first | refine blk_drewN ?_ _ | refine blk_drew ?_ | refine blk_alloc ?_ _)); exact BK250.out⟩, ⟨bO⟩⟩
  rw [if_neg c4] at H
  have c4b0 : decide (a0_1 < 0) = false := decide_eq_false c4
  clear c4
  (first | rw [c4b0] | (simp only [i64_w, i32_w]; rw [c4b0]) | skip)
  have H' := Aside0.mk H; clear H
  have hcz6_0 : w3.cell? ⟨gb250, 0, none⟩ = some (.bool a0_0) := (blk_cell BK250.out 0).trans rfl
  have hcz6_1 : w3.cell? ⟨gb250, 1, none⟩ = some (.int .i64 a0_1) := (blk_cell BK250.out 1).trans rfl
  have hcz6_2 : w3.cell? ⟨gb250, 2, none⟩ = some (.string a0_2) := (blk_cell BK250.out 2).trans rfl
  have hcz6_3 : w3.cell? ⟨gb250, 3, none⟩ = some (.slice A0_3 l0_3.length c0_3) := (blk_cell BK250.out 3).trans rfl
  have hcz6_4 : w3.cell? ⟨gb250, 4, none⟩ = some (.slice A0_4 l0_4.length c0_4) := (blk_cell BK250.out 4).trans rfl
  have hfz6_0 := blk_frozen BK250.out 0; have hfz6_1 := blk_frozen BK250.out 1; have hfz6_2 := blk_frozen BK250.out 2; have hfz6_3 := blk_frozen BK250.out 3; have hfz6_4 := blk_frozen BK250.out 4; go_wp2
  repeat (go_quiet (fail); try go_wp2)
  go_meet
  case rel => exact ⟨_, (decide (a0_1 > 3)), sR, H', ⟨by first | omega | exact Nat.le_refl _⟩, ⟨by (with_reducible repeat (first | refine blk_drewN ?_ _ | refine blk_drew ?_ | refine blk_alloc ?_ _)); exact BK250.out⟩, ⟨bO⟩⟩
 case rest =>
  clear HC2; (try clear c2); (try clear p2); (try clear c4); (try clear c4b0); (try clear hcz5_0); (try clear hcz5_1); (try clear hcz5_2); (try clear hcz5_3); (try clear hcz5_4); (try clear hcz6_0); (try clear hcz6_1); (try clear hcz6_2); (try clear hcz6_3); (try clear hcz6_4); (try clear hfz5_0); (try clear hfz5_1); (try clear hfz5_2); (try clear hfz5_3); (try clear hfz5_4); (try clear hfz6_0); (try clear hfz6_1); (try clear hfz6_2); (try clear hfz6_3); (try clear hfz6_4)
  obtain ⟨kq, x14_1, rfl, HA, HJ1, BK250, HB⟩ := hcut
  cases kq with
  | zero => exact absurd HA.out (by simp [belfryref11_Right.j0])
  | succ kj1 =>
   have H := HA.out; clear HA
   simp only [belfryref11_Right.j0] at H
   by_cases c7 : x14_1 = true
   ·
    subst c7
    have H1 : (some 1) = some r := by rw [if_pos rfl] at H; exact H
    clear H; have H := H1; clear H1
    obtain rfl := Option.some.inj H
    go_wp2
    repeat (go_quiet (fail); try go_wp2)
    go_ret
    exact ⟨eR, bO⟩
   replace c7 := Bool.eq_false_iff.mpr c7
   subst c7
   have H1 : (if a0_2.toList = ([42] : List UInt8) then (belfryref11_Right.j1 kj1 false a0_0 a0_1 a0_2 l0_3 l0_4) else ((belfryref09_Name.f kj1 a0_2).bind fun t251 => (belfryref11_Right.j1 kj1 (!t251) a0_0 a0_1 a0_2 l0_3 l0_4))) = some r := by rw [if_neg (show ¬ (false = true) by decide)] at H; exact H
   clear H; have H := H1; clear H1; have HC8 := Aside0.mk H; clear H
   go_upto_region 3 with (fail)
   repeat (go_quiet (fail); go_upto_region 3 with (fail))
   go_cut [23] (fun v23 wc => ∃ (kq : Nat) (x23_7 : Bool), v23 = .bool x23_7 ∧ Aside0 (belfryref11_Right.j1 kq x23_7 a0_0 a0_1 a0_2 l0_3 l0_4 = some r) ∧ Aside0 (kq ≤ kj1) ∧ Aside0 (wc.heap[gb250]? = some (.cells #[.bool a0_0, .int .i64 a0_1, .string a0_2, (.slice A0_3 l0_3.length c0_3), (.slice A0_4 l0_4.length c0_4)] 46 (0, 0))) ∧ Aside0 (Below w.heap.size w wc))
   case first =>
    have H := HC8.out; clear HC8; by_cases c9 : a0_2.toList = ([42] : List UInt8)
    ·
     rw [if_pos c9] at H
     have c9b0 : (a0_2.toList == ([42] : List UInt8)) = true := beq_iff_eq.mpr c9
     have c9b1 : (a0_2.toList != ([42] : List UInt8)) = false := bne_eq_false_iff_eq.mpr c9
     clear c9
     (first | rw [c9b0] | (simp only [i64_w, i32_w]; rw [c9b0]) | skip)
     have H' := Aside0.mk H; clear H
     have hcz10_0 : wc.cell? ⟨gb250, 0, none⟩ = some (.bool a0_0) := (blk_cell BK250.out 0).trans rfl
     have hcz10_1 : wc.cell? ⟨gb250, 1, none⟩ = some (.int .i64 a0_1) := (blk_cell BK250.out 1).trans rfl
     have hcz10_2 : wc.cell? ⟨gb250, 2, none⟩ = some (.string a0_2) := (blk_cell BK250.out 2).trans rfl
     have hcz10_3 : wc.cell? ⟨gb250, 3, none⟩ = some (.slice A0_3 l0_3.length c0_3) := (blk_cell BK250.out 3).trans rfl
     have hcz10_4 : wc.cell? ⟨gb250, 4, none⟩ = some (.slice A0_4 l0_4.length c0_4) := (blk_cell BK250.out 4).trans rfl
     have hfz10_0 := blk_frozen BK250.out 0; have hfz10_1 := blk_frozen BK250.out 1; have hfz10_2 := blk_frozen BK250.out 2; have hfz10_3 := blk_frozen BK250.out 3; have hfz10_4 := blk_frozen BK250.out 4; go_wp2
     repeat (go_quiet (fail); try go_wp2)
     go_meet
     case rel => exact ⟨_, (false), sR, H', ⟨by have := HJ1.out; first | omega | exact Nat.le_refl _⟩, ⟨by (with_reducible repeat (first | refine blk_drewN ?_ _ | refine blk_drew ?_ | refine blk_alloc ?_ _)); exact BK250.out⟩, ⟨bO⟩⟩
    rw [if_neg c9] at H
    have c9b0 : (a0_2.toList == ([42] : List UInt8)) = false := beq_eq_false_iff_ne.mpr c9
    have c9b1 : (a0_2.toList != ([42] : List UInt8)) = true := bne_iff_ne.mpr c9
    (first | rw [c9b0] | (simp only [i64_w, i32_w]; rw [c9b0]) | skip)
    replace H := Option.bind_eq_some_iff.mp H
    obtain ⟨t251, A110, H⟩ := H
    replace H : (belfryref11_Right.j1 kj1 (!t251) a0_0 a0_1 a0_2 l0_3 l0_4) = some r := H
    have A11 := Aside0.mk A110; clear A110; have H' := Aside0.mk H; clear H
    have hcz12_0 : wc.cell? ⟨gb250, 0, none⟩ = some (.bool a0_0) := (blk_cell BK250.out 0).trans rfl
    have hcz12_1 : wc.cell? ⟨gb250, 1, none⟩ = some (.int .i64 a0_1) := (blk_cell BK250.out 1).trans rfl
    have hcz12_2 : wc.cell? ⟨gb250, 2, none⟩ = some (.string a0_2) := (blk_cell BK250.out 2).trans rfl
    have hcz12_3 : wc.cell? ⟨gb250, 3, none⟩ = some (.slice A0_3 l0_3.length c0_3) := (blk_cell BK250.out 3).trans rfl
    have hcz12_4 : wc.cell? ⟨gb250, 4, none⟩ = some (.slice A0_4 l0_4.length c0_4) := (blk_cell BK250.out 4).trans rfl
    have hfz12_0 := blk_frozen BK250.out 0; have hfz12_1 := blk_frozen BK250.out 1; have hfz12_2 := blk_frozen BK250.out 2; have hfz12_3 := blk_frozen BK250.out 3; have hfz12_4 := blk_frozen BK250.out 4
    go_wp2_with (first | (go_at_call 53; (with_reducible refine (belfryref09_Name.calls kj1 a0_2 t251 _ A11.out).mono ?_); rintro e w' ⟨rfl, ⟨nd, rfl⟩⟩; (try first | exact ⟨rfl, _, World.drewN_drewN _ _ _⟩ | exact ⟨rfl, _, Eq.trans (World.drewN_drewN _ _ _) (congrArg (World.drewN _) (Nat.add_assoc _ _ _))⟩)))
    repeat (go_quiet (first | (go_at_call 53; (with_reducible refine (belfryref09_Name.calls kj1 a0_2 t251 _ A11.out).mono ?_); rintro e w' ⟨rfl, ⟨nd, rfl⟩⟩; (try first | exact ⟨rfl, _, World.drewN_drewN _ _ _⟩ | exact ⟨rfl, _, Eq.trans (World.drewN_drewN _ _ _) (congrArg (World.drewN _) (Nat.add_assoc _ _ _))⟩))); try go_wp2_with (first | (go_at_call 53; (with_reducible refine (belfryref09_Name.calls kj1 a0_2 t251 _ A11.out).mono ?_); rintro e w' ⟨rfl, ⟨nd, rfl⟩⟩; (try first | exact ⟨rfl, _, World.drewN_drewN _ _ _⟩ | exact ⟨rfl, _, Eq.trans (World.drewN_drewN _ _ _) (congrArg (World.drewN _) (Nat.add_assoc _ _ _))⟩))))
    go_meet
    case rel => exact ⟨_, (!t251), sR, H', ⟨by have := HJ1.out; first | omega | exact Nat.le_refl _⟩, ⟨by (with_reducible repeat (first | refine blk_drewN ?_ _ | refine blk_drew ?_ | refine blk_alloc ?_ _)); exact BK250.out⟩, ⟨bO⟩⟩
   case rest =>
    clear HC8; (try clear c2); (try clear p2); (try clear c4); (try clear c4b0); (try clear c7); (try clear c9); (try clear c9b0); (try clear c9b1); (try clear hcz10_0); (try clear hcz10_1); (try clear hcz10_2); (try clear hcz10_3); (try clear hcz10_4); (try clear hcz12_0); (try clear hcz12_1); (try clear hcz12_2); (try clear hcz12_3); (try clear hcz12_4); (try clear hcz5_0); (try clear hcz5_1); (try clear hcz5_2); (try clear hcz5_3); (try clear hcz5_4); (try clear hcz6_0); (try clear hcz6_1); (try clear hcz6_2); (try clear hcz6_3); (try clear hcz6_4); (try clear hfz10_0)
    (try clear hfz10_1); (try clear hfz10_2); (try clear hfz10_3); (try clear hfz10_4); (try clear hfz12_0); (try clear hfz12_1); (try clear hfz12_2); (try clear hfz12_3); (try clear hfz12_4); (try clear hfz5_0); (try clear hfz5_1); (try clear hfz5_2); (try clear hfz5_3); (try clear hfz5_4); (try clear hfz6_0); (try clear hfz6_1); (try clear hfz6_2); (try clear hfz6_3); (try clear hfz6_4); (try clear p2)
    obtain ⟨kq, x23_7, rfl, HA, HJ7, BK250, HB⟩ := hcut
    cases kq with
    | zero => exact absurd HA.out (by simp [belfryref11_Right.j1])
    | succ kj7 =>
     have H := HA.out; clear HA
     simp only [belfryref11_Right.j1] at H
     by_cases c13 : x23_7 = true
     ·
      subst c13
      have H1 : (some 100) = some r := by rw [if_pos rfl] at H; exact H
      clear H; have H := H1; clear H1
      obtain rfl := Option.some.inj H
      go_wp2
      repeat (go_quiet (fail); try go_wp2)
      go_ret
      exact ⟨eR, bO⟩
     replace c13 := Bool.eq_false_iff.mpr c13
     subst c13
     have H1 : ((belfryref04_RightMatch.f kj7 l0_3).bind fun t252 => (if t252 = 0 then (if a0_0 = true then (if (l0_3.length : Int) > 1 then (belfryref11_Right.j2 kj7 true a0_0 a0_1 a0_2 l0_3 l0_4) else (belfryref11_Right.j2 kj7 (decide ((l0_4.length : Int) > 0)) a0_0 a0_1 a0_2 l0_3 l0_4)) else (belfryref11_Right.j2 kj7 false a0_0 a0_1 a0_2 l0_3 l0_4)) else (some t252))) = some r := by rw [if_neg (show ¬ (false = true) by decide)] at H; exact H
     clear H; have H := H1; clear H1
     replace H := Option.bind_eq_some_iff.mp H
     obtain ⟨t252, A140, H⟩ := H
     replace H : (if t252 = 0 then (if a0_0 = true then (if (l0_3.length : Int) > 1 then (belfryref11_Right.j2 kj7 true a0_0 a0_1 a0_2 l0_3 l0_4) else (belfryref11_Right.j2 kj7 (decide ((l0_4.length : Int) > 0)) a0_0 a0_1 a0_2 l0_3 l0_4)) else (belfryref11_Right.j2 kj7 false a0_0 a0_1 a0_2 l0_3 l0_4)) else (some t252)) = some r := H
     have A14 := Aside0.mk A140; clear A140; by_cases c15 : t252 = 0; rotate_left
     ·
      rw [if_neg c15] at H
      have c15b0 : (t252 == 0) = false := beq_eq_false_iff_ne.mpr c15
      have c15b1 : (t252 != 0) = true := bne_iff_ne.mpr c15
      obtain rfl := Option.some.inj H
      have hcz45_0 : wc.cell? ⟨gb250, 0, none⟩ = some (.bool a0_0) := (blk_cell BK250.out 0).trans rfl
      have hcz45_1 : wc.cell? ⟨gb250, 1, none⟩ = some (.int .i64 a0_1) := (blk_cell BK250.out 1).trans rfl
      have hcz45_2 : wc.cell? ⟨gb250, 2, none⟩ = some (.string a0_2) := (blk_cell BK250.out 2).trans rfl
      have hcz45_3 : wc.cell? ⟨gb250, 3, none⟩ = some (.slice A0_3 l0_3.length c0_3) := (blk_cell BK250.out 3).trans rfl
      have hcz45_4 : wc.cell? ⟨gb250, 4, none⟩ = some (.slice A0_4 l0_4.length c0_4) := (blk_cell BK250.out 4).trans rfl
      have hfz45_0 := blk_frozen BK250.out 0; have hfz45_1 := blk_frozen BK250.out 1; have hfz45_2 := blk_frozen BK250.out 2; have hfz45_3 := blk_frozen BK250.out 3; have hfz45_4 := blk_frozen BK250.out 4
      go_wp2_with (first | (go_at_call 54; (with_reducible refine (belfryref04_RightMatch.calls kj7 _ _ l0_3 t252 _ ?side1 ?side2 A14.out).mono ?_); (case side1 => repeat (first | exact (Kd.C_below HR0_3.out HB.out) | (with_reducible refine Kd.C_alloc ?_ _) | (with_reducible refine Kd.C_drewN ?_ _) | (with_reducible refine Kd.C_drew ?_))); (case side2 => exact HC0_3.out); rintro e w' ⟨rfl, ⟨nd, rfl⟩⟩; (try first | exact ⟨rfl, _, World.drewN_drewN _ _ _⟩ | exact ⟨rfl, _, Eq.trans (World.drewN_drewN _ _ _) (congrArg (World.drewN _) (Nat.add_assoc _ _ _))⟩)))
      repeat (go_quiet (first | (go_at_call 54; (with_reducible refine (belfryref04_RightMatch.calls kj7 _ _ l0_3 t252 _ ?side1 ?side2 A14.out).mono ?_); (case side1 => repeat (first | exact (Kd.C_below HR0_3.out HB.out) | (with_reducible refine Kd.C_alloc ?_ _) | (with_reducible refine Kd.C_drewN ?_ _) | (with_reducible refine Kd.C_drew ?_))); (case side2 => exact HC0_3.out); rintro e w' ⟨rfl, ⟨nd, rfl⟩⟩; (try first | exact ⟨rfl, _, World.drewN_drewN _ _ _⟩ | exact ⟨rfl, _, Eq.trans (World.drewN_drewN _ _ _) (congrArg (World.drewN _) (Nat.add_assoc _ _ _))⟩))); try go_wp2_with (first | (go_at_call 54; (with_reducible refine (belfryref04_RightMatch.calls kj7 _ _ l0_3 t252 _ ?side1 ?side2 A14.out).mono ?_); (case side1 => repeat (first | exact (Kd.C_below HR0_3.out HB.out) | (with_reducible refine Kd.C_alloc ?_ _) | (with_reducible refine Kd.C_drewN ?_ _) | (with_reducible refine Kd.C_drew ?_))); (case side2 => exact HC0_3.out); rintro e w' ⟨rfl, ⟨nd, rfl⟩⟩; (try first | exact ⟨rfl, _, World.drewN_drewN _ _ _⟩ | exact ⟨rfl, _, Eq.trans (World.drewN_drewN _ _ _) (congrArg (World.drewN _) (Nat.add_assoc _ _ _))⟩))))
      go_ret
      exact ⟨eR, bO⟩
     rw [if_pos c15] at H
     have c15b0 : (t252 == 0) = true := beq_iff_eq.mpr c15
     have c15b1 : (t252 != 0) = false := bne_eq_false_iff_eq.mpr c15
     clear c15; have HC16 := Aside0.mk H; clear H
     have hcz17_0 : wc.cell? ⟨gb250, 0, none⟩ = some (.bool a0_0) := (blk_cell BK250.out 0).trans rfl
     have hcz17_1 : wc.cell? ⟨gb250, 1, none⟩ = some (.int .i64 a0_1) := (blk_cell BK250.out 1).trans rfl
     have hcz17_2 : wc.cell? ⟨gb250, 2, none⟩ = some (.string a0_2) := (blk_cell BK250.out 2).trans rfl
     have hcz17_3 : wc.cell? ⟨gb250, 3, none⟩ = some (.slice A0_3 l0_3.length c0_3) := (blk_cell BK250.out 3).trans rfl
     have hcz17_4 : wc.cell? ⟨gb250, 4, none⟩ = some (.slice A0_4 l0_4.length c0_4) := (blk_cell BK250.out 4).trans rfl
     have hfz17_0 := blk_frozen BK250.out 0; have hfz17_1 := blk_frozen BK250.out 1; have hfz17_2 := blk_frozen BK250.out 2; have hfz17_3 := blk_frozen BK250.out 3; have hfz17_4 := blk_frozen BK250.out 4
     go_upto_region 8 with (first | (go_at_call 54; (with_reducible refine (belfryref04_RightMatch.calls kj7 _ _ l0_3 t252 _ ?side1 ?side2 A14.out).mono ?_); (case side1 => repeat (first | exact (Kd.C_below HR0_3.out HB.out) | (with_reducible refine Kd.C_alloc ?_ _) | (with_reducible refine Kd.C_drewN ?_ _) | (with_reducible refine Kd.C_drew ?_))); (case side2 => exact HC0_3.out); rintro e w' ⟨rfl, ⟨nd, rfl⟩⟩; (try first | exact ⟨rfl, _, World.drewN_drewN _ _ _⟩ | exact ⟨rfl, _, Eq.trans (World.drewN_drewN _ _ _) (congrArg (World.drewN _) (Nat.add_assoc _ _ _))⟩)))
     repeat (go_quiet (first | (go_at_call 54; (with_reducible refine (belfryref04_RightMatch.calls kj7 _ _ l0_3 t252 _ ?side1 ?side2 A14.out).mono ?_); (case side1 => repeat (first | exact (Kd.C_below HR0_3.out HB.out) | (with_reducible refine Kd.C_alloc ?_ _) | (with_reducible refine Kd.C_drewN ?_ _) | (with_reducible refine Kd.C_drew ?_))); (case side2 => exact HC0_3.out); rintro e w' ⟨rfl, ⟨nd, rfl⟩⟩; (try first | exact ⟨rfl, _, World.drewN_drewN _ _ _⟩ | exact ⟨rfl, _, Eq.trans (World.drewN_drewN _ _ _) (congrArg (World.drewN _) (Nat.add_assoc _ _ _))⟩))); go_upto_region 8 with (first | (go_at_call 54; (with_reducible refine (belfryref04_RightMatch.calls kj7 _ _ l0_3 t252 _ ?side1 ?side2 A14.out).mono ?_); (case side1 => repeat (first | exact (Kd.C_below HR0_3.out HB.out) | (with_reducible refine Kd.C_alloc ?_ _) | (with_reducible refine Kd.C_drewN ?_ _) | (with_reducible refine Kd.C_drew ?_))); (case side2 => exact HC0_3.out); rintro e w' ⟨rfl, ⟨nd, rfl⟩⟩; (try first | exact ⟨rfl, _, World.drewN_drewN _ _ _⟩ | exact ⟨rfl, _, Eq.trans (World.drewN_drewN _ _ _) (congrArg (World.drewN _) (Nat.add_assoc _ _ _))⟩))))
     (try simp only [Act.put, List.setIfInBounds_toArray, List.set_cons_zero, List.set_cons_succ])
     go_cut [43] (fun v43 wc => ∃ (kq : Nat) (x43_15 : Bool), v43 = .bool x43_15 ∧ Aside0 (belfryref11_Right.j2 kq x43_15 a0_0 a0_1 a0_2 l0_3 l0_4 = some r) ∧ Aside0 (kq ≤ kj7) ∧ Aside0 (wc.heap[gb250]? = some (.cells #[.bool a0_0, .int .i64 a0_1, .string a0_2, (.slice A0_3 l0_3.length c0_3), (.slice A0_4 l0_4.length c0_4)] 46 (0, 0))) ∧ Aside0 (Below w.heap.size w wc))
     case first =>
      have H := HC16.out; clear HC16; by_cases c18 : a0_0 = true; rotate_left
      ·
       replace c18 := Bool.eq_false_iff.mpr c18
       subst c18
       have H1 : (belfryref11_Right.j2 kj7 false false a0_1 a0_2 l0_3 l0_4) = some r := by rw [if_neg (show ¬ (false = true) by decide)] at H; exact H
       clear H; have H := H1; clear H1; have H' := Aside0.mk H; clear H
       have hcz22_0 : wc.cell? ⟨gb250, 0, none⟩ = some (.bool false) := (blk_cell BK250.out 0).trans rfl
       have hcz22_1 : wc.cell? ⟨gb250, 1, none⟩ = some (.int .i64 a0_1) := (blk_cell BK250.out 1).trans rfl
       have hcz22_2 : wc.cell? ⟨gb250, 2, none⟩ = some (.string a0_2) := (blk_cell BK250.out 2).trans rfl
       have hcz22_3 : wc.cell? ⟨gb250, 3, none⟩ = some (.slice A0_3 l0_3.length c0_3) := (blk_cell BK250.out 3).trans rfl
       have hcz22_4 : wc.cell? ⟨gb250, 4, none⟩ = some (.slice A0_4 l0_4.length c0_4) := (blk_cell BK250.out 4).trans rfl
       have hfz22_0 := blk_frozen BK250.out 0; have hfz22_1 := blk_frozen BK250.out 1; have hfz22_2 := blk_frozen BK250.out 2; have hfz22_3 := blk_frozen BK250.out 3; have hfz22_4 := blk_frozen BK250.out 4; go_wp2
       repeat (go_quiet (fail); try go_wp2)
       go_meet
       case rel => exact ⟨_, (false), sR, H', ⟨by have := HJ1.out; have := HJ7.out; first | omega | exact Nat.le_refl _⟩, ⟨by (with_reducible repeat (first | refine blk_drewN ?_ _ | refine blk_drew ?_ | refine blk_alloc ?_ _)); exact BK250.out⟩, ⟨bO⟩⟩
      subst c18
      have H1 : (if (l0_3.length : Int) > 1 then (belfryref11_Right.j2 kj7 true true a0_1 a0_2 l0_3 l0_4) else (belfryref11_Right.j2 kj7 (decide ((l0_4.length : Int) > 0)) true a0_1 a0_2 l0_3 l0_4)) = some r := by rw [if_pos rfl] at H; exact H
      clear H; have H := H1; clear H1; by_cases c19 : (l0_3.length : Int) > 1
      ·
       rw [if_pos c19] at H
       have c19b0 : decide (1 < (l0_3.length : Int)) = true := decide_eq_true c19
       have c19b1 : decide (1 < l0_3.length) = true := decide_eq_true (by omega)
       clear c19
       (first | rw [c19b0] | (simp only [i64_w, i32_w]; rw [c19b0]) | skip)
       have H' := Aside0.mk H; clear H
       have hcz20_0 : wc.cell? ⟨gb250, 0, none⟩ = some (.bool true) := (blk_cell BK250.out 0).trans rfl
       have hcz20_1 : wc.cell? ⟨gb250, 1, none⟩ = some (.int .i64 a0_1) := (blk_cell BK250.out 1).trans rfl
       have hcz20_2 : wc.cell? ⟨gb250, 2, none⟩ = some (.string a0_2) := (blk_cell BK250.out 2).trans rfl
       have hcz20_3 : wc.cell? ⟨gb250, 3, none⟩ = some (.slice A0_3 l0_3.length c0_3) := (blk_cell BK250.out 3).trans rfl
       have hcz20_4 : wc.cell? ⟨gb250, 4, none⟩ = some (.slice A0_4 l0_4.length c0_4) := (blk_cell BK250.out 4).trans rfl
       have hfz20_0 := blk_frozen BK250.out 0; have hfz20_1 := blk_frozen BK250.out 1; have hfz20_2 := blk_frozen BK250.out 2; have hfz20_3 := blk_frozen BK250.out 3; have hfz20_4 := blk_frozen BK250.out 4; go_wp2
       repeat (go_quiet (fail); try go_wp2)
       go_meet
       case rel => exact ⟨_, (true), sR, H', ⟨by have := HJ1.out; have := HJ7.out; first | omega | exact Nat.le_refl _⟩, ⟨by (with_reducible repeat (first | refine blk_drewN ?_ _ | refine blk_drew ?_ | refine blk_alloc ?_ _)); exact BK250.out⟩, ⟨bO⟩⟩
      rw [if_neg c19] at H
      have c19b0 : decide (1 < (l0_3.length : Int)) = false := decide_eq_false c19
      have c19b1 : decide (1 < l0_3.length) = false := decide_eq_false (by omega)
      clear c19
      (first | rw [c19b0] | (simp only [i64_w, i32_w]; rw [c19b0]) | skip)
      have H' := Aside0.mk H; clear H
      have hcz21_0 : wc.cell? ⟨gb250, 0, none⟩ = some (.bool true) := (blk_cell BK250.out 0).trans rfl
      have hcz21_1 : wc.cell? ⟨gb250, 1, none⟩ = some (.int .i64 a0_1) := (blk_cell BK250.out 1).trans rfl
      have hcz21_2 : wc.cell? ⟨gb250, 2, none⟩ = some (.string a0_2) := (blk_cell BK250.out 2).trans rfl
      have hcz21_3 : wc.cell? ⟨gb250, 3, none⟩ = some (.slice A0_3 l0_3.length c0_3) := (blk_cell BK250.out 3).trans rfl
      have hcz21_4 : wc.cell? ⟨gb250, 4, none⟩ = some (.slice A0_4 l0_4.length c0_4) := (blk_cell BK250.out 4).trans rfl
      have hfz21_0 := blk_frozen BK250.out 0; have hfz21_1 := blk_frozen BK250.out 1; have hfz21_2 := blk_frozen BK250.out 2; have hfz21_3 := blk_frozen BK250.out 3; have hfz21_4 := blk_frozen BK250.out 4; go_wp2
      repeat (go_quiet (fail); try go_wp2)
      go_meet
      case rel => exact ⟨_, (decide ((l0_4.length : Int) > 0)), sR, H', ⟨by have := HJ1.out; have := HJ7.out; first | omega | exact Nat.le_refl _⟩, ⟨by (with_reducible repeat (first | refine blk_drewN ?_ _ | refine blk_drew ?_ | refine blk_alloc ?_ _)); exact BK250.out⟩, ⟨bO⟩⟩
     case rest =>
      clear HC16; (try clear c1); (try clear c2); (try clear p2); (try clear c4); (try clear c4b0); (try clear c7); (try clear c9); (try clear c9b0); (try clear c9b1); (try clear c13); (try clear c15); (try clear c15b0); (try clear c15b1); (try clear c18); (try clear c19); (try clear c19b0); (try clear c19b1); (try clear hcz10_0); (try clear hcz10_1); (try clear hcz10_2); (try clear hcz10_3); (try clear hcz10_4); (try clear hcz12_0); (try clear hcz12_1); (try clear hcz12_2); (try clear hcz12_3); (try clear hcz12_4); (try clear hcz17_0); (try clear hcz17_1); (try clear hcz17_2)
      (try clear hcz17_3); (try clear hcz17_4); (try clear hcz20_0); (try clear hcz20_1); (try clear hcz20_2); (try clear hcz20_3); (try clear hcz20_4); (try clear hcz21_0); (try clear hcz21_1); (try clear hcz21_2); (try clear hcz21_3); (try clear hcz21_4); (try clear hcz22_0); (try clear hcz22_1); (try clear hcz22_2); (try clear hcz22_3); (try clear hcz22_4); (try clear hcz5_0); (try clear hcz5_1); (try clear hcz5_2); (try clear hcz5_3); (try clear hcz5_4); (try clear hcz6_0); (try clear hcz6_1); (try clear hcz6_2); (try clear hcz6_3); (try clear hcz6_4); (try clear hfz10_0)
      (try clear hfz10_1); (try clear hfz10_2); (try clear hfz10_3); (try clear hfz10_4); (try clear hfz12_0); (try clear hfz12_1); (try clear hfz12_2); (try clear hfz12_3); (try clear hfz12_4); (try clear hfz17_0); (try clear hfz17_1); (try clear hfz17_2); (try clear hfz17_3); (try clear hfz17_4); (try clear hfz20_0); (try clear hfz20_1); (try clear hfz20_2); (try clear hfz20_3); (try clear hfz20_4); (try clear hfz21_0); (try clear hfz21_1); (try clear hfz21_2); (try clear hfz21_3); (try clear hfz21_4); (try clear hfz22_0); (try clear hfz22_1); (try clear hfz22_2); (try clear hfz22_3)
      (try clear hfz22_4); (try clear hfz5_0); (try clear hfz5_1); (try clear hfz5_2); (try clear hfz5_3); (try clear hfz5_4); (try clear hfz6_0); (try clear hfz6_1); (try clear hfz6_2); (try clear hfz6_3); (try clear hfz6_4); (try clear p2)
      obtain ⟨kq, x43_15, rfl, HA, HJ15, BK250, HB⟩ := hcut
      cases kq with
      | zero => exact absurd HA.out (by simp [belfryref11_Right.j2])
      | succ kj15 =>
       have H := HA.out; clear HA
       simp only [belfryref11_Right.j2] at H
       by_cases c23 : x43_15 = true
       ·
        subst c23
        have H1 : (some 110) = some r := by rw [if_pos rfl] at H; exact H
        clear H; have H := H1; clear H1
        obtain rfl := Option.some.inj H
        go_wp2
        repeat (go_quiet (fail); try go_wp2)
        go_ret
        exact ⟨eR, bO⟩
       replace c23 := Bool.eq_false_iff.mpr c23
       subst c23
       have H1 : (if (l0_4.length : Int) > 16 then (some 7) else (belfryref11_Right.l0 kj15 0 a0_0 a0_1 a0_2 l0_3 l0_4)) = some r := by rw [if_neg (show ¬ (false = true) by decide)] at H; exact H
       clear H; have H := H1; clear H1; by_cases c24 : (l0_4.length : Int) > 16
       ·
        rw [if_pos c24] at H
        have c24b0 : decide (16 < (l0_4.length : Int)) = true := decide_eq_true c24
        have c24b1 : decide (16 < l0_4.length) = true := decide_eq_true (by omega)
        clear c24
        obtain rfl := Option.some.inj H
        have hcz25_0 : wc.cell? ⟨gb250, 0, none⟩ = some (.bool a0_0) := (blk_cell BK250.out 0).trans rfl
        have hcz25_1 : wc.cell? ⟨gb250, 1, none⟩ = some (.int .i64 a0_1) := (blk_cell BK250.out 1).trans rfl
        have hcz25_2 : wc.cell? ⟨gb250, 2, none⟩ = some (.string a0_2) := (blk_cell BK250.out 2).trans rfl
        have hcz25_3 : wc.cell? ⟨gb250, 3, none⟩ = some (.slice A0_3 l0_3.length c0_3) := (blk_cell BK250.out 3).trans rfl
        have hcz25_4 : wc.cell? ⟨gb250, 4, none⟩ = some (.slice A0_4 l0_4.length c0_4) := (blk_cell BK250.out 4).trans rfl
        have hfz25_0 := blk_frozen BK250.out 0; have hfz25_1 := blk_frozen BK250.out 1; have hfz25_2 := blk_frozen BK250.out 2; have hfz25_3 := blk_frozen BK250.out 3; have hfz25_4 := blk_frozen BK250.out 4; go_wp2
        repeat (go_quiet (fail); try go_wp2)
        go_ret
        exact ⟨eR, bO⟩
       rw [if_neg c24] at H
       have c24b0 : decide (16 < (l0_4.length : Int)) = false := decide_eq_false c24
       have c24b1 : decide (16 < l0_4.length) = false := decide_eq_false (by omega)
       clear c24; have H' := Aside0.mk H; clear H
       have hcz26_0 : wc.cell? ⟨gb250, 0, none⟩ = some (.bool a0_0) := (blk_cell BK250.out 0).trans rfl
       have hcz26_1 : wc.cell? ⟨gb250, 1, none⟩ = some (.int .i64 a0_1) := (blk_cell BK250.out 1).trans rfl
       have hcz26_2 : wc.cell? ⟨gb250, 2, none⟩ = some (.string a0_2) := (blk_cell BK250.out 2).trans rfl
       have hcz26_3 : wc.cell? ⟨gb250, 3, none⟩ = some (.slice A0_3 l0_3.length c0_3) := (blk_cell BK250.out 3).trans rfl
       have hcz26_4 : wc.cell? ⟨gb250, 4, none⟩ = some (.slice A0_4 l0_4.length c0_4) := (blk_cell BK250.out 4).trans rfl
       have hfz26_0 := blk_frozen BK250.out 0; have hfz26_1 := blk_frozen BK250.out 1; have hfz26_2 := blk_frozen BK250.out 2; have hfz26_3 := blk_frozen BK250.out 3; have hfz26_4 := blk_frozen BK250.out 4; go_wp2
       repeat (go_quiet (fail); try go_wp2)
       go_loopg [4] kj15 (fun kq v4 w' => ∃ (x4_4 : Int), v4 = .int .i64 x4_4 ∧ Aside0 (belfryref11_Right.l0 kq x4_4 a0_0 a0_1 a0_2 l0_3 l0_4 = some r) ∧ Aside0 (kq ≤ kj15) ∧ Aside0 (w'.heap[gb250]? = some (.cells #[.bool a0_0, .int .i64 a0_1, .string a0_2, (.slice A0_3 l0_3.length c0_3), (.slice A0_4 l0_4.length c0_4)] 46 (0, 0))) ∧ Aside0 (Below w.heap.size w w'))
       case atStart => exact ⟨(0), sR, H', ⟨Nat.le_refl _⟩, ⟨by (with_reducible repeat (first | refine blk_drewN ?_ _ | refine blk_drew ?_ | refine blk_alloc ?_ _)); exact BK250.out⟩, ⟨bO⟩⟩
       case round =>
        clear H'; (try clear c1); (try clear c2); (try clear p2); (try clear c4); (try clear c4b0); (try clear c7); (try clear c9); (try clear c9b0); (try clear c9b1); (try clear c13); (try clear c15); (try clear c15b0); (try clear c15b1); (try clear c18); (try clear c19); (try clear c19b0); (try clear c19b1); (try clear c23); (try clear c24); (try clear c24b0); (try clear c24b1); (try clear hcz10_0); (try clear hcz10_1); (try clear hcz10_2); (try clear hcz10_3); (try clear hcz10_4); (try clear hcz12_0); (try clear hcz12_1); (try clear hcz12_2); (try clear hcz12_3); (try clear hcz12_4)
        (try clear hcz17_0); (try clear hcz17_1); (try clear hcz17_2); (try clear hcz17_3); (try clear hcz17_4); (try clear hcz20_0); (try clear hcz20_1); (try clear hcz20_2); (try clear hcz20_3); (try clear hcz20_4); (try clear hcz21_0); (try clear hcz21_1); (try clear hcz21_2); (try clear hcz21_3); (try clear hcz21_4); (try clear hcz22_0); (try clear hcz22_1); (try clear hcz22_2); (try clear hcz22_3); (try clear hcz22_4); (try clear hcz25_0); (try clear hcz25_1); (try clear hcz25_2); (try clear hcz25_3); (try clear hcz25_4); (try clear hcz26_0); (try clear hcz26_1)
        (try clear hcz26_2); (try clear hcz26_3); (try clear hcz26_4); (try clear hcz5_0); (try clear hcz5_1); (try clear hcz5_2); (try clear hcz5_3); (try clear hcz5_4); (try clear hcz6_0); (try clear hcz6_1); (try clear hcz6_2); (try clear hcz6_3); (try clear hcz6_4); (try clear hfz10_0); (try clear hfz10_1); (try clear hfz10_2); (try clear hfz10_3); (try clear hfz10_4); (try clear hfz12_0); (try clear hfz12_1); (try clear hfz12_2); (try clear hfz12_3); (try clear hfz12_4); (try clear hfz17_0); (try clear hfz17_1); (try clear hfz17_2); (try clear hfz17_3); (try clear hfz17_4)
        (try clear hfz20_0); (try clear hfz20_1); (try clear hfz20_2); (try clear hfz20_3); (try clear hfz20_4); (try clear hfz21_0); (try clear hfz21_1); (try clear hfz21_2); (try clear hfz21_3); (try clear hfz21_4); (try clear hfz22_0); (try clear hfz22_1); (try clear hfz22_2); (try clear hfz22_3); (try clear hfz22_4); (try clear hfz25_0); (try clear hfz25_1); (try clear hfz25_2); (try clear hfz25_3); (try clear hfz25_4); (try clear hfz26_0); (try clear hfz26_1); (try clear hfz26_2); (try clear hfz26_3); (try clear hfz26_4); (try clear hfz5_0); (try clear hfz5_1); (try clear hfz5_2)
        (try clear hfz5_3); (try clear hfz5_4); (try clear hfz6_0); (try clear hfz6_1); (try clear hfz6_2); (try clear hfz6_3); (try clear hfz6_4); (try clear p2)
        obtain ⟨x4_4, rfl, HA, HK4, BK250, HB⟩ := hrel
        cases gk with
        | zero => exact absurd HA.out (by simp [belfryref11_Right.l0])
        | succ k4 =>
         have H := HA.out; clear HA
         simp only [belfryref11_Right.l0] at H
         by_cases c27 : x4_4 < (l0_4.length : Int)
         ·
          rw [if_pos c27] at H
          have c27b0 : decide (x4_4 < (l0_4.length : Int)) = true := decide_eq_true c27
          clear c27; by_cases c28 : 0 ≤ x4_4; rotate_left
          · rw [if_neg c28] at H; exact absurd H (by simp)
          rw [if_pos c28] at H
          have c28b0 : decide (0 ≤ x4_4) = true := decide_eq_true c28
          clear c28
          replace H := Option.bind_eq_some_iff.mp H
          obtain ⟨t254, A290, H⟩ := H
          replace H : (if t254 = true then (belfryref11_Right.l0 k4 (wrap64 (x4_4 + 1)) a0_0 a0_1 a0_2 l0_3 l0_4) else (some 40)) = some r := H
          have A29 := Aside0.mk A290; clear A290; by_cases c30 : t254 = true; rotate_left
          ·
           replace c30 := Bool.eq_false_iff.mpr c30
           subst c30
           have H1 : (some 40) = some r := by rw [if_neg (show ¬ (false = true) by decide)] at H; exact H
           clear H; have H := H1; clear H1
           obtain rfl := Option.some.inj H
           have hcz32_0 : wr.cell? ⟨gb250, 0, none⟩ = some (.bool a0_0) := (blk_cell BK250.out 0).trans rfl
           have hcz32_1 : wr.cell? ⟨gb250, 1, none⟩ = some (.int .i64 a0_1) := (blk_cell BK250.out 1).trans rfl
           have hcz32_2 : wr.cell? ⟨gb250, 2, none⟩ = some (.string a0_2) := (blk_cell BK250.out 2).trans rfl
           have hcz32_3 : wr.cell? ⟨gb250, 3, none⟩ = some (.slice A0_3 l0_3.length c0_3) := (blk_cell BK250.out 3).trans rfl
           have hcz32_4 : wr.cell? ⟨gb250, 4, none⟩ = some (.slice A0_4 l0_4.length c0_4) := (blk_cell BK250.out 4).trans rfl
           have hfz32_0 := blk_frozen BK250.out 0; have hfz32_1 := blk_frozen BK250.out 1; have hfz32_2 := blk_frozen BK250.out 2; have hfz32_3 := blk_frozen BK250.out 3; have hfz32_4 := blk_frozen BK250.out 4
           have p253 : 0 ≤ (x4_4 : Int) := of_decide_eq_true asm
           have q253 : x4_4 < (l0_4.length : Int) := of_decide_eq_true asm
           obtain ⟨ad253, e253, hx253_0⟩ := Kd.at_string HR0_4.out x4_4 p253 q253
           cases e253
           replace hx253_0 := bC HB hx253_0
           replace p253 := eq_true p253; replace q253 := eq_true q253
           go_wp2_with (first | (go_at_call 55; (with_reducible refine (belfryref04_Key.calls k4 (rdOf ByteArray.empty l0_4 x4_4) false _ A29.out).mono ?_); rintro e w' ⟨rfl, ⟨nd, rfl⟩⟩; (try first | exact ⟨rfl, _, World.drewN_drewN _ _ _⟩ | exact ⟨rfl, _, Eq.trans (World.drewN_drewN _ _ _) (congrArg (World.drewN _) (Nat.add_assoc _ _ _))⟩)))
           repeat (go_quiet (first | (go_at_call 55; (with_reducible refine (belfryref04_Key.calls k4 (rdOf ByteArray.empty l0_4 x4_4) false _ A29.out).mono ?_); rintro e w' ⟨rfl, ⟨nd, rfl⟩⟩; (try first | exact ⟨rfl, _, World.drewN_drewN _ _ _⟩ | exact ⟨rfl, _, Eq.trans (World.drewN_drewN _ _ _) (congrArg (World.drewN _) (Nat.add_assoc _ _ _))⟩))); try go_wp2_with (first | (go_at_call 55; (with_reducible refine (belfryref04_Key.calls k4 (rdOf ByteArray.empty l0_4 x4_4) false _ A29.out).mono ?_); rintro e w' ⟨rfl, ⟨nd, rfl⟩⟩; (try first | exact ⟨rfl, _, World.drewN_drewN _ _ _⟩ | exact ⟨rfl, _, Eq.trans (World.drewN_drewN _ _ _) (congrArg (World.drewN _) (Nat.add_assoc _ _ _))⟩))))
           go_ret
           exact ⟨eR, bO⟩
          subst c30
          have H1 : (belfryref11_Right.l0 k4 (wrap64 (x4_4 + 1)) a0_0 a0_1 a0_2 l0_3 l0_4) = some r := by rw [if_pos rfl] at H; exact H
          clear H; have H := H1; clear H1; have H' := Aside0.mk H; clear H
          have hcz31_0 : wr.cell? ⟨gb250, 0, none⟩ = some (.bool a0_0) := (blk_cell BK250.out 0).trans rfl
          have hcz31_1 : wr.cell? ⟨gb250, 1, none⟩ = some (.int .i64 a0_1) := (blk_cell BK250.out 1).trans rfl
          have hcz31_2 : wr.cell? ⟨gb250, 2, none⟩ = some (.string a0_2) := (blk_cell BK250.out 2).trans rfl
          have hcz31_3 : wr.cell? ⟨gb250, 3, none⟩ = some (.slice A0_3 l0_3.length c0_3) := (blk_cell BK250.out 3).trans rfl
          have hcz31_4 : wr.cell? ⟨gb250, 4, none⟩ = some (.slice A0_4 l0_4.length c0_4) := (blk_cell BK250.out 4).trans rfl
          have hfz31_0 := blk_frozen BK250.out 0; have hfz31_1 := blk_frozen BK250.out 1; have hfz31_2 := blk_frozen BK250.out 2; have hfz31_3 := blk_frozen BK250.out 3; have hfz31_4 := blk_frozen BK250.out 4
          have p253 : 0 ≤ (x4_4 : Int) := of_decide_eq_true asm
          have q253 : x4_4 < (l0_4.length : Int) := of_decide_eq_true asm
          obtain ⟨ad253, e253, hx253_0⟩ := Kd.at_string HR0_4.out x4_4 p253 q253
          cases e253
          replace hx253_0 := bC HB hx253_0
          replace p253 := eq_true p253; replace q253 := eq_true q253
          go_wp2_with (first | (go_at_call 55; (with_reducible refine (belfryref04_Key.calls k4 (rdOf ByteArray.empty l0_4 x4_4) true _ A29.out).mono ?_); rintro e w' ⟨rfl, ⟨nd, rfl⟩⟩; (try first | exact ⟨rfl, _, World.drewN_drewN _ _ _⟩ | exact ⟨rfl, _, Eq.trans (World.drewN_drewN _ _ _) (congrArg (World.drewN _) (Nat.add_assoc _ _ _))⟩)))
          repeat (go_quiet (first | (go_at_call 55; (with_reducible refine (belfryref04_Key.calls k4 (rdOf ByteArray.empty l0_4 x4_4) true _ A29.out).mono ?_); rintro e w' ⟨rfl, ⟨nd, rfl⟩⟩; (try first | exact ⟨rfl, _, World.drewN_drewN _ _ _⟩ | exact ⟨rfl, _, Eq.trans (World.drewN_drewN _ _ _) (congrArg (World.drewN _) (Nat.add_assoc _ _ _))⟩))); try go_wp2_with (first | (go_at_call 55; (with_reducible refine (belfryref04_Key.calls k4 (rdOf ByteArray.empty l0_4 x4_4) true _ A29.out).mono ?_); rintro e w' ⟨rfl, ⟨nd, rfl⟩⟩; (try first | exact ⟨rfl, _, World.drewN_drewN _ _ _⟩ | exact ⟨rfl, _, Eq.trans (World.drewN_drewN _ _ _) (congrArg (World.drewN _) (Nat.add_assoc _ _ _))⟩))))
          go_roundg k4
          case measure => have := HJ1.out; have := HJ7.out; have := HJ15.out; have := HK4.out; omega
          case rel => exact ⟨(wrap64 (x4_4 + 1)), sR, H', ⟨by have := HJ1.out; have := HJ7.out; have := HJ15.out; have := HK4.out; omega⟩, ⟨by (with_reducible repeat (first | refine blk_drewN ?_ _ | refine blk_drew ?_ | refine blk_alloc ?_ _)); exact BK250.out⟩, ⟨bO⟩⟩
         rw [if_neg c27] at H
         have c27b0 : decide (x4_4 < (l0_4.length : Int)) = false := decide_eq_false c27
         clear c27; have H' := Aside0.mk H; clear H
         have hcz33_0 : wr.cell? ⟨gb250, 0, none⟩ = some (.bool a0_0) := (blk_cell BK250.out 0).trans rfl
         have hcz33_1 : wr.cell? ⟨gb250, 1, none⟩ = some (.int .i64 a0_1) := (blk_cell BK250.out 1).trans rfl
         have hcz33_2 : wr.cell? ⟨gb250, 2, none⟩ = some (.string a0_2) := (blk_cell BK250.out 2).trans rfl
         have hcz33_3 : wr.cell? ⟨gb250, 3, none⟩ = some (.slice A0_3 l0_3.length c0_3) := (blk_cell BK250.out 3).trans rfl
         have hcz33_4 : wr.cell? ⟨gb250, 4, none⟩ = some (.slice A0_4 l0_4.length c0_4) := (blk_cell BK250.out 4).trans rfl
         have hfz33_0 := blk_frozen BK250.out 0; have hfz33_1 := blk_frozen BK250.out 1; have hfz33_2 := blk_frozen BK250.out 2; have hfz33_3 := blk_frozen BK250.out 3; have hfz33_4 := blk_frozen BK250.out 4; go_wp2
         repeat (go_quiet (fail); try go_wp2)
         go_loopg [5] k4 (fun kq v5 w' => ∃ (x5_5 : Int), v5 = .int .i64 x5_5 ∧ Aside0 (belfryref11_Right.l1 kq x5_5 a0_0 a0_1 a0_2 l0_3 l0_4 = some r) ∧ Aside0 (kq ≤ k4) ∧ Aside0 (w'.heap[gb250]? = some (.cells #[.bool a0_0, .int .i64 a0_1, .string a0_2, (.slice A0_3 l0_3.length c0_3), (.slice A0_4 l0_4.length c0_4)] 46 (0, 0))) ∧ Aside0 (Below w.heap.size w w'))
         case atStart => exact ⟨(0), sR, H', ⟨Nat.le_refl _⟩, ⟨by (with_reducible repeat (first | refine blk_drewN ?_ _ | refine blk_drew ?_ | refine blk_alloc ?_ _)); exact BK250.out⟩, ⟨bO⟩⟩
         case round =>
          clear H'; (try clear c1); (try clear c2); (try clear p2); (try clear q2); (try clear hx2); (try clear c3); (try clear c4); (try clear c4b0); (try clear p6); (try clear c7); (try clear c9); (try clear c9b0); (try clear c9b1); (try clear c13); (try clear c15); (try clear c15b0); (try clear c15b1); (try clear c18); (try clear c19); (try clear c19b0); (try clear c19b1); (try clear c23); (try clear c24); (try clear c24b0); (try clear c24b1); (try clear p25); (try clear q25); (try clear hx25); (try clear c27); (try clear c27b0); (try clear c28); (try clear c28b0); (try clear c30)
          (try clear hcz10_0); (try clear hcz10_1); (try clear hcz10_2); (try clear hcz10_3); (try clear hcz10_4); (try clear hcz12_0); (try clear hcz12_1); (try clear hcz12_2); (try clear hcz12_3); (try clear hcz12_4); (try clear hcz17_0); (try clear hcz17_1); (try clear hcz17_2); (try clear hcz17_3); (try clear hcz17_4); (try clear hcz20_0); (try clear hcz20_1); (try clear hcz20_2); (try clear hcz20_3); (try clear hcz20_4); (try clear hcz21_0); (try clear hcz21_1); (try clear hcz21_2); (try clear hcz21_3); (try clear hcz21_4); (try clear hcz22_0); (try clear hcz22_1)
          (try clear hcz22_2); (try clear hcz22_3); (try clear hcz22_4); (try clear hcz25_0); (try clear hcz25_1); (try clear hcz25_2); (try clear hcz25_3); (try clear hcz25_4); (try clear hcz26_0); (try clear hcz26_1); (try clear hcz26_2); (try clear hcz26_3); (try clear hcz26_4); (try clear hcz31_0); (try clear hcz31_1); (try clear hcz31_2); (try clear hcz31_3); (try clear hcz31_4); (try clear hcz32_0); (try clear hcz32_1); (try clear hcz32_2); (try clear hcz32_3); (try clear hcz32_4); (try clear hcz33_0); (try clear hcz33_1); (try clear hcz33_2); (try clear hcz33_3)
          (try clear hcz33_4); (try clear hcz5_0); (try clear hcz5_1); (try clear hcz5_2); (try clear hcz5_3); (try clear hcz5_4); (try clear hcz6_0); (try clear hcz6_1); (try clear hcz6_2); (try clear hcz6_3); (try clear hcz6_4); (try clear hfz10_0); (try clear hfz10_1); (try clear hfz10_2); (try clear hfz10_3); (try clear hfz10_4); (try clear hfz12_0); (try clear hfz12_1); (try clear hfz12_2); (try clear hfz12_3); (try clear hfz12_4); (try clear hfz17_0); (try clear hfz17_1); (try clear hfz17_2); (try clear hfz17_3); (try clear hfz17_4); (try clear hfz20_0); (try clear hfz20_1)
          (try clear hfz20_2); (try clear hfz20_3); (try clear hfz20_4); (try clear hfz21_0); (try clear hfz21_1); (try clear hfz21_2); (try clear hfz21_3); (try clear hfz21_4); (try clear hfz22_0); (try clear hfz22_1); (try clear hfz22_2); (try clear hfz22_3); (try clear hfz22_4); (try clear hfz25_0); (try clear hfz25_1); (try clear hfz25_2); (try clear hfz25_3); (try clear hfz25_4); (try clear hfz26_0); (try clear hfz26_1); (try clear hfz26_2); (try clear hfz26_3); (try clear hfz26_4); (try clear hfz31_0); (try clear hfz31_1); (try clear hfz31_2); (try clear hfz31_3)
          (try clear hfz31_4); (try clear hfz32_0); (try clear hfz32_1); (try clear hfz32_2); (try clear hfz32_3); (try clear hfz32_4); (try clear hfz33_0); (try clear hfz33_1); (try clear hfz33_2); (try clear hfz33_3); (try clear hfz33_4); (try clear hfz5_0); (try clear hfz5_1); (try clear hfz5_2); (try clear hfz5_3); (try clear hfz5_4); (try clear hfz6_0); (try clear hfz6_1); (try clear hfz6_2); (try clear hfz6_3); (try clear hfz6_4); (try clear hx253_0); (try clear p2); (try clear p253); (try clear q253)
          obtain ⟨x5_5, rfl, HA, HK5, BK250, HB⟩ := hrel
          cases gk with
          | zero => exact absurd HA.out (by simp [belfryref11_Right.l1])
          | succ k5 =>
           have H := HA.out; clear HA
           simp only [belfryref11_Right.l1] at H
           by_cases c34 : x5_5 < (l0_4.length : Int); rotate_left
           ·
            rw [if_neg c34] at H
            have c34b0 : decide (x5_5 < (l0_4.length : Int)) = false := decide_eq_false c34
            clear c34
            obtain rfl := Option.some.inj H
            have hcz44_0 : wr.cell? ⟨gb250, 0, none⟩ = some (.bool a0_0) := (blk_cell BK250.out 0).trans rfl
            have hcz44_1 : wr.cell? ⟨gb250, 1, none⟩ = some (.int .i64 a0_1) := (blk_cell BK250.out 1).trans rfl
            have hcz44_2 : wr.cell? ⟨gb250, 2, none⟩ = some (.string a0_2) := (blk_cell BK250.out 2).trans rfl
            have hcz44_3 : wr.cell? ⟨gb250, 3, none⟩ = some (.slice A0_3 l0_3.length c0_3) := (blk_cell BK250.out 3).trans rfl
            have hcz44_4 : wr.cell? ⟨gb250, 4, none⟩ = some (.slice A0_4 l0_4.length c0_4) := (blk_cell BK250.out 4).trans rfl
            have hfz44_0 := blk_frozen BK250.out 0; have hfz44_1 := blk_frozen BK250.out 1; have hfz44_2 := blk_frozen BK250.out 2; have hfz44_3 := blk_frozen BK250.out 3; have hfz44_4 := blk_frozen BK250.out 4; go_wp2
            repeat (go_quiet (fail); try go_wp2)
            go_ret
            exact ⟨eR, bO⟩
           rw [if_pos c34] at H
           have c34b0 : decide (x5_5 < (l0_4.length : Int)) = true := decide_eq_true c34
           clear c34; have H' := Aside0.mk H; clear H
           have hcz35_0 : wr.cell? ⟨gb250, 0, none⟩ = some (.bool a0_0) := (blk_cell BK250.out 0).trans rfl
           have hcz35_1 : wr.cell? ⟨gb250, 1, none⟩ = some (.int .i64 a0_1) := (blk_cell BK250.out 1).trans rfl
           have hcz35_2 : wr.cell? ⟨gb250, 2, none⟩ = some (.string a0_2) := (blk_cell BK250.out 2).trans rfl
           have hcz35_3 : wr.cell? ⟨gb250, 3, none⟩ = some (.slice A0_3 l0_3.length c0_3) := (blk_cell BK250.out 3).trans rfl
           have hcz35_4 : wr.cell? ⟨gb250, 4, none⟩ = some (.slice A0_4 l0_4.length c0_4) := (blk_cell BK250.out 4).trans rfl
           have hfz35_0 := blk_frozen BK250.out 0; have hfz35_1 := blk_frozen BK250.out 1; have hfz35_2 := blk_frozen BK250.out 2; have hfz35_3 := blk_frozen BK250.out 3; have hfz35_4 := blk_frozen BK250.out 4; go_wp2
           repeat (go_quiet (fail); try go_wp2)
           go_loopg [6] k5 (fun kq v6 w' => ∃ (x6_6 : Int), v6 = .int .i64 x6_6 ∧ Aside0 (belfryref11_Right.l2 kq x5_5 x6_6 a0_0 a0_1 a0_2 l0_3 l0_4 = some r) ∧ Aside0 (kq ≤ k5) ∧ Aside0 (w'.heap[gb250]? = some (.cells #[.bool a0_0, .int .i64 a0_1, .string a0_2, (.slice A0_3 l0_3.length c0_3), (.slice A0_4 l0_4.length c0_4)] 46 (0, 0))) ∧ Aside0 (Below w.heap.size w w'))
           case atStart => exact ⟨(0), sR, H', ⟨Nat.le_refl _⟩, ⟨by (with_reducible repeat (first | refine blk_drewN ?_ _ | refine blk_drew ?_ | refine blk_alloc ?_ _)); exact BK250.out⟩, ⟨bO⟩⟩
           case round =>
            clear H'; (try clear c1); (try clear c2); (try clear p2); (try clear q2); (try clear hx2); (try clear c3); (try clear c4); (try clear c4b0); (try clear p6); (try clear c7); (try clear c9); (try clear c9b0); (try clear c9b1); (try clear c13); (try clear c15); (try clear c15b0); (try clear c15b1); (try clear c18); (try clear c19); (try clear c19b0); (try clear c19b1); (try clear c23); (try clear c24); (try clear c24b0); (try clear c24b1); (try clear p25); (try clear q25); (try clear hx25); (try clear c27); (try clear c27b0); (try clear c28); (try clear c28b0)
            (try clear c30); (try clear c34); (try clear c34b0); (try clear hcz10_0); (try clear hcz10_1); (try clear hcz10_2); (try clear hcz10_3); (try clear hcz10_4); (try clear hcz12_0); (try clear hcz12_1); (try clear hcz12_2); (try clear hcz12_3); (try clear hcz12_4); (try clear hcz17_0); (try clear hcz17_1); (try clear hcz17_2); (try clear hcz17_3); (try clear hcz17_4); (try clear hcz20_0); (try clear hcz20_1); (try clear hcz20_2); (try clear hcz20_3); (try clear hcz20_4); (try clear hcz21_0); (try clear hcz21_1); (try clear hcz21_2); (try clear hcz21_3); (try clear hcz21_4)
            (try clear hcz22_0); (try clear hcz22_1); (try clear hcz22_2); (try clear hcz22_3); (try clear hcz22_4); (try clear hcz25_0); (try clear hcz25_1); (try clear hcz25_2); (try clear hcz25_3); (try clear hcz25_4); (try clear hcz26_0); (try clear hcz26_1); (try clear hcz26_2); (try clear hcz26_3); (try clear hcz26_4); (try clear hcz31_0); (try clear hcz31_1); (try clear hcz31_2); (try clear hcz31_3); (try clear hcz31_4); (try clear hcz32_0); (try clear hcz32_1); (try clear hcz32_2); (try clear hcz32_3); (try clear hcz32_4); (try clear hcz33_0); (try clear hcz33_1)
            (try clear hcz33_2); (try clear hcz33_3); (try clear hcz33_4); (try clear hcz35_0); (try clear hcz35_1); (try clear hcz35_2); (try clear hcz35_3); (try clear hcz35_4); (try clear hcz5_0); (try clear hcz5_1); (try clear hcz5_2); (try clear hcz5_3); (try clear hcz5_4); (try clear hcz6_0); (try clear hcz6_1); (try clear hcz6_2); (try clear hcz6_3); (try clear hcz6_4); (try clear hfz10_0); (try clear hfz10_1); (try clear hfz10_2); (try clear hfz10_3); (try clear hfz10_4); (try clear hfz12_0); (try clear hfz12_1); (try clear hfz12_2); (try clear hfz12_3); (try clear hfz12_4)
            (try clear hfz17_0); (try clear hfz17_1); (try clear hfz17_2); (try clear hfz17_3); (try clear hfz17_4); (try clear hfz20_0); (try clear hfz20_1); (try clear hfz20_2); (try clear hfz20_3); (try clear hfz20_4); (try clear hfz21_0); (try clear hfz21_1); (try clear hfz21_2); (try clear hfz21_3); (try clear hfz21_4); (try clear hfz22_0); (try clear hfz22_1); (try clear hfz22_2); (try clear hfz22_3); (try clear hfz22_4); (try clear hfz25_0); (try clear hfz25_1); (try clear hfz25_2); (try clear hfz25_3); (try clear hfz25_4); (try clear hfz26_0); (try clear hfz26_1)
            (try clear hfz26_2); (try clear hfz26_3); (try clear hfz26_4); (try clear hfz31_0); (try clear hfz31_1); (try clear hfz31_2); (try clear hfz31_3); (try clear hfz31_4); (try clear hfz32_0); (try clear hfz32_1); (try clear hfz32_2); (try clear hfz32_3); (try clear hfz32_4); (try clear hfz33_0); (try clear hfz33_1); (try clear hfz33_2); (try clear hfz33_3); (try clear hfz33_4); (try clear hfz35_0); (try clear hfz35_1); (try clear hfz35_2); (try clear hfz35_3); (try clear hfz35_4); (try clear hfz5_0); (try clear hfz5_1); (try clear hfz5_2); (try clear hfz5_3)
            (try clear hfz5_4); (try clear hfz6_0); (try clear hfz6_1); (try clear hfz6_2); (try clear hfz6_3); (try clear hfz6_4); (try clear hx253_0); (try clear p2); (try clear p25); (try clear p253); (try clear p6); (try clear q2); (try clear q25); (try clear q253)
            obtain ⟨x6_6, rfl, HA, HK6, BK250, HB⟩ := hrel
            cases gk with
            | zero => exact absurd HA.out (by simp [belfryref11_Right.l2])
            | succ k6 =>
             have H := HA.out; clear HA
             simp only [belfryref11_Right.l2] at H
             by_cases c36 : x6_6 < x5_5; rotate_left
             ·
              rw [if_neg c36] at H
              have c36b0 : decide (x6_6 < x5_5) = false := decide_eq_false c36
              clear c36; have H' := Aside0.mk H; clear H; go_wp2
              repeat (go_quiet (fail); try go_wp2)
              go_roundg k6
              case measure => have := HJ1.out; have := HJ7.out; have := HJ15.out; have := HK4.out; have := HK5.out; have := HK6.out; omega
              case rel => exact ⟨(wrap64 (x5_5 + 1)), sR, H', ⟨by have := HJ1.out; have := HJ7.out; have := HJ15.out; have := HK4.out; have := HK5.out; have := HK6.out; omega⟩, ⟨by (with_reducible repeat (first | refine blk_drewN ?_ _ | refine blk_drew ?_ | refine blk_alloc ?_ _)); exact BK250.out⟩, ⟨bO⟩⟩
             rw [if_pos c36] at H
             have c36b0 : decide (x6_6 < x5_5) = true := decide_eq_true c36
             clear c36; by_cases c37 : 0 ≤ x5_5; rotate_left
             · rw [if_neg c37] at H; exact absurd H (by simp)
             rw [if_pos c37] at H
             have c37b0 : decide (0 ≤ x5_5) = true := decide_eq_true c37
             clear c37; by_cases c38 : x5_5 < (l0_4.length : Int); rotate_left
             · rw [if_neg c38] at H; exact absurd H (by simp)
             rw [if_pos c38] at H
             have c38b0 : decide (x5_5 < (l0_4.length : Int)) = true := decide_eq_true c38
             clear c38; by_cases c39 : 0 ≤ x6_6; rotate_left
             · rw [if_neg c39] at H; exact absurd H (by simp)
             rw [if_pos c39] at H
             have c39b0 : decide (0 ≤ x6_6) = true := decide_eq_true c39
             clear c39; by_cases c40 : x6_6 < (l0_4.length : Int); rotate_left
             · rw [if_neg c40] at H; exact absurd H (by simp)
             rw [if_pos c40] at H
             have c40b0 : decide (x6_6 < (l0_4.length : Int)) = true := decide_eq_true c40
             clear c40; by_cases c41 : (rdOf ByteArray.empty l0_4 x5_5).toList = (rdOf ByteArray.empty l0_4 x6_6).toList
             ·
              rw [if_pos c41] at H
              have c41b0 : ((rdOf ByteArray.empty l0_4 x5_5).toList == (rdOf ByteArray.empty l0_4 x6_6).toList) = true := beq_iff_eq.mpr c41
              have c41b1 : ((rdOf ByteArray.empty l0_4 x5_5).toList != (rdOf ByteArray.empty l0_4 x6_6).toList) = false := bne_eq_false_iff_eq.mpr c41
              clear c41
              obtain rfl := Option.some.inj H
              have hcz42_0 : wr.cell? ⟨gb250, 0, none⟩ = some (.bool a0_0) := (blk_cell BK250.out 0).trans rfl
              have hcz42_1 : wr.cell? ⟨gb250, 1, none⟩ = some (.int .i64 a0_1) := (blk_cell BK250.out 1).trans rfl
              have hcz42_2 : wr.cell? ⟨gb250, 2, none⟩ = some (.string a0_2) := (blk_cell BK250.out 2).trans rfl
              have hcz42_3 : wr.cell? ⟨gb250, 3, none⟩ = some (.slice A0_3 l0_3.length c0_3) := (blk_cell BK250.out 3).trans rfl
              have hcz42_4 : wr.cell? ⟨gb250, 4, none⟩ = some (.slice A0_4 l0_4.length c0_4) := (blk_cell BK250.out 4).trans rfl
              have hfz42_0 := blk_frozen BK250.out 0; have hfz42_1 := blk_frozen BK250.out 1; have hfz42_2 := blk_frozen BK250.out 2; have hfz42_3 := blk_frozen BK250.out 3; have hfz42_4 := blk_frozen BK250.out 4
              have p255 : 0 ≤ (x5_5 : Int) := of_decide_eq_true asm
              have q255 : x5_5 < (l0_4.length : Int) := of_decide_eq_true asm
              obtain ⟨ad255, e255, hx255_0⟩ := Kd.at_string HR0_4.out x5_5 p255 q255
              cases e255
              replace hx255_0 := bC HB hx255_0
              replace p255 := eq_true p255; replace q255 := eq_true q255
              have p256 : 0 ≤ (x6_6 : Int) := of_decide_eq_true asm
              have q256 : x6_6 < (l0_4.length : Int) := of_decide_eq_true asm
              obtain ⟨ad256, e256, hx256_0⟩ := Kd.at_string HR0_4.out x6_6 p256 q256
              obtain rfl : ad255 = ad256 := (by injection e256)
              replace hx256_0 := bC HB hx256_0
              replace p256 := eq_true p256; replace q256 := eq_true q256; go_wp2
              repeat (go_quiet (fail); try go_wp2)
              go_ret
              exact ⟨eR, bO⟩
             rw [if_neg c41] at H
             have c41b0 : ((rdOf ByteArray.empty l0_4 x5_5).toList == (rdOf ByteArray.empty l0_4 x6_6).toList) = false := beq_eq_false_iff_ne.mpr c41
             have c41b1 : ((rdOf ByteArray.empty l0_4 x5_5).toList != (rdOf ByteArray.empty l0_4 x6_6).toList) = true := bne_iff_ne.mpr c41
             have H' := Aside0.mk H; clear H
             have hcz43_0 : wr.cell? ⟨gb250, 0, none⟩ = some (.bool a0_0) := (blk_cell BK250.out 0).trans rfl
             have hcz43_1 : wr.cell? ⟨gb250, 1, none⟩ = some (.int .i64 a0_1) := (blk_cell BK250.out 1).trans rfl
             have hcz43_2 : wr.cell? ⟨gb250, 2, none⟩ = some (.string a0_2) := (blk_cell BK250.out 2).trans rfl
             have hcz43_3 : wr.cell? ⟨gb250, 3, none⟩ = some (.slice A0_3 l0_3.length c0_3) := (blk_cell BK250.out 3).trans rfl
             have hcz43_4 : wr.cell? ⟨gb250, 4, none⟩ = some (.slice A0_4 l0_4.length c0_4) := (blk_cell BK250.out 4).trans rfl
             have hfz43_0 := blk_frozen BK250.out 0; have hfz43_1 := blk_frozen BK250.out 1; have hfz43_2 := blk_frozen BK250.out 2; have hfz43_3 := blk_frozen BK250.out 3; have hfz43_4 := blk_frozen BK250.out 4
             have p255 : 0 ≤ (x5_5 : Int) := of_decide_eq_true asm
             have q255 : x5_5 < (l0_4.length : Int) := of_decide_eq_true asm
             obtain ⟨ad255, e255, hx255_0⟩ := Kd.at_string HR0_4.out x5_5 p255 q255
             cases e255
             replace hx255_0 := bC HB hx255_0
             replace p255 := eq_true p255; replace q255 := eq_true q255
             have p256 : 0 ≤ (x6_6 : Int) := of_decide_eq_true asm
             have q256 : x6_6 < (l0_4.length : Int) := of_decide_eq_true asm
             obtain ⟨ad256, e256, hx256_0⟩ := Kd.at_string HR0_4.out x6_6 p256 q256
             obtain rfl : ad255 = ad256 := (by injection e256)
             replace hx256_0 := bC HB hx256_0
             replace p256 := eq_true p256; replace q256 := eq_true q256; go_wp2
             repeat (go_quiet (fail); try go_wp2)
             go_roundg k6
             case measure => have := HJ1.out; have := HJ7.out; have := HJ15.out; have := HK4.out; have := HK5.out; have := HK6.out; omega
             case rel => exact ⟨(wrap64 (x6_6 + 1)), sR, H', ⟨by have := HJ1.out; have := HJ7.out; have := HJ15.out; have := HK4.out; have := HK5.out; have := HK6.out; omega⟩, ⟨by (with_reducible repeat (first | refine blk_drewN ?_ _ | refine blk_drew ?_ | refine blk_alloc ?_ _)); exact BK250.out⟩, ⟨bO⟩⟩
end Go.Proofs.YtkedidjjhhjdbaaGreatDoor.Pr
end
section
set_option linter.unusedVariables false
set_option linter.unusedSimpArgs false
namespace Go.Proofs.YtkedidjjhhjdbaaGreatDoor.Pr
open Go.RowKit Go.Proofs.YtkedidjjhhjdbaaGreatDoorW.PrintWords Go.Proofs.YtkedidjjhhjdbaaGreatDoorW.PrintLast Go.Proofs.YtkedidjjhhjdbaaGreatDoorW.PrintMore
def twB : List ByteArray → List ByteArray → Bool
  | _, [] => false
  | seen, x :: l => seen.any (fun y => y.toList == x.toList) || twB (seen ++ [x]) l
theorem same_key (a b : ByteArray) : (Lit.string a.data.toList).sameKey (Lit.string b.data.toList) = (a.toList == b.toList) := by
 rw [Lib.toList_data, Lib.toList_data]; rw [Bool.eq_iff_iff]
 simp [Lit.sameKey]
theorem distinct_from : ∀ (l seen : List ByteArray) (acc : List Lit), (∀ x : ByteArray, acc.any (fun y => y.sameKey (.string x.data.toList)) = seen.any (fun y => y.toList == x.toList)) →
  ((keysOf l).foldl Go.Maps.addKey acc).length ≤ acc.length + l.length ∧ (((keysOf l).foldl Go.Maps.addKey acc).length < acc.length + l.length ↔ twB seen l = true)
 | [], seen, acc, h => by simp [keysOf, twB]
 | x :: l, seen, acc, h => by
  have e : (keysOf (x :: l)).foldl Go.Maps.addKey acc = (keysOf l).foldl Go.Maps.addKey (Go.Maps.addKey acc (.string x.data.toList)) := rfl
  rw [e, twB]; have hx := h x
  cases hs : seen.any (fun y => y.toList == x.toList) with
  | true =>
   rw [hs] at hx
   have ek : Go.Maps.addKey acc (.string x.data.toList) = acc := by unfold Go.Maps.addKey; rw [if_pos hx]
   rw [ek]
   have ih := distinct_from l (seen ++ [x]) acc (fun y => by
    rw [h y, List.any_append]
    cases hy : seen.any (fun z => z.toList == y.toList) with
    | true => rfl
    | false =>
     by_cases hxy : x.toList = y.toList
     · rw [hxy] at hs; rw [hs] at hy; cases hy
     simp [hxy])
   have e2 : (x :: l).length = l.length + 1 := rfl
   refine ⟨by omega, ?_⟩
   rw [Bool.true_or]
   exact ⟨fun _ => rfl, fun _ => by omega⟩
  | false =>
   rw [hs] at hx
   have ek : Go.Maps.addKey acc (.string x.data.toList) = acc ++ [.string x.data.toList] := by unfold Go.Maps.addKey; rw [if_neg (by rw [hx]; simp)]
   rw [ek]
   have ih := distinct_from l (seen ++ [x]) (acc ++ [.string x.data.toList]) (fun y => by
    rw [List.any_append, List.any_append, h y]
    congr 1
    simp only [List.any_cons, List.any_nil, Bool.or_false]
    exact same_key x y)
   have e2 : (x :: l).length = l.length + 1 := rfl
   have e3 : (acc ++ [Lit.string x.data.toList]).length = acc.length + 1 := by simp
   rw [e3] at ih
   refine ⟨by omega, ?_⟩
   rw [Bool.false_or, ← ih.2]; omega
theorem distinct_tw (l : List ByteArray) : ((distinctN l : Int) < (l.length : Int)) ↔ twB [] l = true := by
 have := (distinct_from l [] [] (fun x => rfl)).2
 rw [List.length_nil, Nat.zero_add] at this; rw [← this]
 unfold distinctN
 exact Int.ofNat_lt
def hidL (h : List ByteArray) : Int := if (h.length : Int) > 16 then 7 else if h.all keyB = true then (if twB [] h = true then 6 else 0) else 40
def rightL (d : Bool) (kd : Int) (tn : ByteArray) (sc : List S33) (h : List ByteArray) : Int :=
  if kd < 0 ∨ 3 < kd then 1 else if tn.toList = ([42] : List UInt8) ∨ nameB tn = true then (if rightM sc = 0 then (if d = true ∧ ((sc.length : Int) > 1 ∨ (h.length : Int) > 0) then 110 else hidL h) else rightM sc) else 100
theorem kind_nil (c : Int) : ∃ b, policy_Kind.f c = some b ∧ (b.toList = ([] : List UInt8) ↔ c < 0 ∨ 3 < c) := by
 unfold policy_Kind.f
 by_cases h1 : c = 0
 · exact ⟨_, if_pos h1, by simp [Lib.toList_data]; omega⟩
 rw [if_neg h1]; by_cases h2 : c = 1
 · exact ⟨_, if_pos h2, by simp [Lib.toList_data]; omega⟩
 rw [if_neg h2]; by_cases h3 : c = 2
 · exact ⟨_, if_pos h3, by simp [Lib.toList_data]; omega⟩
 rw [if_neg h3]; by_cases h4 : c = 3
 · exact ⟨_, if_pos h4, by simp [Lib.toList_data]; omega⟩
 exact ⟨_, if_neg h4, by simp [Lib.toList_data]; omega⟩
theorem rdOf_at (l : List ByteArray) (i : Nat) (h : i < l.length) : rdOf ByteArray.empty l (i : Int) = l[i] := by simp [rdOf, h]
theorem index_l0 (l : List ByteArray) (hl : l.length < 4611686018427387904) : ∀ (n i : Nat), i + n = l.length → ∀ k, n + 70 < k → ∃ r, slices_IndexFunc_string_string.l0 k l (l.length : Int) (i : Int) = some r ∧ (decide (r ≥ 0) = !((l.drop i).all keyB))
 | _, _, _, 0, hk => absurd hk (by omega)
 | 0, i, hn, k + 1, hk => by
  rw [slices_IndexFunc_string_string.l0, if_neg (by omega), List.drop_of_length_le (show l.length ≤ i by omega)]
  exact ⟨_, rfl, rfl⟩
 | n + 1, i, hn, k + 1, hk => by
  have hi : i < l.length := by omega
  obtain ⟨r, hr, hd⟩ := index_l0 l hl n (i + 1) (by omega) k (by omega)
  rw [slices_IndexFunc_string_string.l0, if_pos (by omega), if_pos (by omega), if_pos (by omega), rdOf_at l i hi, wrap_small (n := (i : Int) + 1) (by omega) (by omega), show (i : Int) + 1 = ((i + 1 : Nat) : Int) by omega, hr, drop_cons33 l i hi, List.all_cons]
  unfold policy_Right_1.f
  rw [key_eq _ k (by omega), Option.bind_some, Option.bind_some]
  cases keyB l[i] with
  | false => exact ⟨_, rfl, by simp⟩
  | true => exact ⟨r, rfl, hd⟩
theorem contains_ev (l : List ByteArray) (hl : l.length < 4611686018427387904) : Ev (fun k => slices_ContainsFunc_string_string.f k l) (!(l.all keyB)) := by
 refine ⟨l.length + 71, fun k hk => ?_⟩
 obtain ⟨r, hr, hd⟩ := index_l0 l hl l.length 0 (by omega) k (by omega)
 rw [List.drop_zero] at hd
 unfold slices_ContainsFunc_string_string.f slices_IndexFunc_string_string.f
 dsimp only
 rw [show (0 : Int) = ((0 : Nat) : Int) from rfl, hr, Option.bind_some, ← hd]; rfl
theorem key_size {s : ByteArray} (h : keyB s = true) : s.size ≤ 64 := by
 unfold keyB at h
 simp only [Bool.and_eq_true, decide_eq_true_eq] at h
 exact h.1.1.2
theorem right_ev (d : Bool) (kd : Int) (tn : ByteArray) (sc : List S33) (h : List ByteArray) : Ev (fun k => policy_Right.f k d kd tn sc h) (rightL d kd tn sc h) := by
 obtain ⟨b, hb, hbn⟩ := kind_nil kd
 unfold policy_Right.f rightL
 simp only [hb, Option.bind_some]; by_cases h1 : kd < 0 ∨ 3 < kd
 · simp only [if_pos h1, if_pos (hbn.2 h1)]; exact Ev.const rfl
 simp only [if_neg h1, if_neg (fun e => h1 (hbn.1 e))]
 have hbad : policy_Right.bad tn = some (decide (¬ (tn.toList = ([42] : List UInt8) ∨ nameB tn = true))) := by
  unfold policy_Right.bad
  by_cases h2 : tn.toList = ([42] : List UInt8)
  · simp [h2]
  rw [if_neg h2, name_eq, Option.bind_some]
  cases nameB tn <;> simp [h2]
 simp only [hbad, Option.bind_some]; by_cases h2 : tn.toList = ([42] : List UInt8) ∨ nameB tn = true; rotate_left
 · simp only [if_neg h2, decide_eq_true h2, if_true]; exact Ev.const rfl
 simp only [if_pos h2, decide_eq_false (fun e : ¬ (tn.toList = ([42] : List UInt8) ∨ nameB tn = true) => e h2), Bool.false_eq_true, if_false]
 unfold policy_Right.rest
 refine Ev.bind (rightM_ev sc) ?_
 by_cases h3 : rightM sc = 0; rotate_left
 · simp only [if_neg h3]; exact Ev.const rfl
 simp only [if_pos h3]; by_cases h4 : d = true ∧ ((sc.length : Int) > 1 ∨ (h.length : Int) > 0)
 · simp only [if_pos h4]; exact Ev.const rfl
 simp only [if_neg h4]
 unfold hidL
 by_cases h5 : (h.length : Int) > 16
 · simp only [if_pos h5]; exact Ev.const rfl
 simp only [if_neg h5]
 refine Ev.bind (contains_ev h (by omega)) ?_
 cases ha : h.all keyB with
 | false => exact Ev.const rfl
 | true =>
  have hsz : (h.all fun s => decide (s.size ≤ 9223372036854775807)) = true := by
   rw [List.all_eq_true] at ha ⊢
   exact fun x hx => decide_eq_true (Nat.le_trans (key_size (ha x hx)) (by omega))
  simp only [Bool.not_true, Bool.false_eq_true, if_false, if_true, if_pos hsz]
  refine Ev.const ?_
  by_cases ht : twB [] h = true
  · rw [if_pos ((distinct_tw h).2 ht), if_pos ht]
  rw [if_neg (fun e => ht ((distinct_tw h).1 e)), if_neg ht]
section
variable (d : Bool) (kd : Int) (tn : ByteArray) (sc : List S33) (l : List ByteArray)
theorem ref_l2 (hl : l.length < 4611686018427387904) (i : Nat) (hi : i < l.length) (v : Int) (hv : Ev (fun k => belfryref11_Right.l1 k ((i + 1 : Nat) : Int) d kd tn sc l) v) : ∀ (n j : Nat), j + n = i →
  Ev (fun k => belfryref11_Right.l2 k (i : Int) (j : Int) d kd tn sc l) (if ((l.take i).drop j).any (fun y => y.toList == l[i].toList) = true then 6 else v)
 | 0, j, hn => by
  have e : (l.take i).drop j = [] := by rw [List.drop_of_length_le]; rw [List.length_take]; omega
  rw [e, List.any_nil, if_neg (by simp)]
  exact Ev.succ hv (fun k => by rw [belfryref11_Right.l2, if_neg (by omega), wrap_small (n := (i : Int) + 1) (by omega) (by omega), show (i : Int) + 1 = ((i + 1 : Nat) : Int) by omega])
 | n + 1, j, hn => by
  have ih := ref_l2 hl i hi v hv n (j + 1) (by omega)
  have hj : j < (l.take i).length := by rw [List.length_take]; omega
  have e : (l.take i)[j] = l[j] := List.getElem_take
  rw [drop_cons33 _ j hj, List.any_cons, e]
  refine Ev.succ (g := fun k => if l[i].toList = l[j].toList then some 6 else belfryref11_Right.l2 k (i : Int) ((j + 1 : Nat) : Int) d kd tn sc l) ?_ (fun k => by
   rw [belfryref11_Right.l2, if_pos (by omega), if_pos (by omega), if_pos (by omega), if_pos (by omega), if_pos (by omega), rdOf_at l i hi, rdOf_at l j (by omega), wrap_small (n := (j : Int) + 1) (by omega) (by omega), show (j : Int) + 1 = ((j + 1 : Nat) : Int) by omega])
  by_cases h : l[i].toList = l[j].toList
  · simp only [if_pos h, h, beq_self_eq_true, Bool.true_or, if_true]; exact Ev.const rfl
  simp only [if_neg h, beq_eq_false_iff_ne.mpr (fun e => h e.symm), Bool.false_or]; exact ih
theorem ref_l1 (hl : l.length < 4611686018427387904) : ∀ (n i : Nat), i + n = l.length → Ev (fun k => belfryref11_Right.l1 k (i : Int) d kd tn sc l) (if twB (l.take i) (l.drop i) = true then 6 else 0)
 | 0, i, hn => by
  rw [List.drop_of_length_le (show l.length ≤ i by omega)]
  exact Ev.succ (g := fun _ => some 0) (Ev.const rfl) (fun k => by rw [belfryref11_Right.l1, if_neg (by omega)])
 | n + 1, i, hn => by
  have hi : i < l.length := by omega
  have ih := ref_l1 hl n (i + 1) (by omega); have h2 := ref_l2 d kd tn sc l hl i hi _ ih i 0 (by omega)
  refine Ev.succ (g := fun k => belfryref11_Right.l2 k (i : Int) ((0 : Nat) : Int) d kd tn sc l) ?_ (fun k => by rw [belfryref11_Right.l1, if_pos (by omega)]; rfl)
  rw [drop_cons33 l i hi, twB, show l.take i ++ [l[i]] = l.take (i + 1) by rw [List.take_succ_eq_append_getElem hi]]
  rw [List.drop_zero] at h2
  cases hh : (l.take i).any (fun y => y.toList == l[i].toList) with
  | true => rw [hh] at h2; exact h2
  | false => rw [hh] at h2; exact h2
theorem ref_l0 (hl : l.length < 4611686018427387904) : ∀ (n i : Nat), i + n = l.length → Ev (fun k => belfryref11_Right.l0 k (i : Int) d kd tn sc l) (if (l.drop i).all keyB = true then (if twB [] l = true then 6 else 0) else 40)
 | 0, i, hn => by
  rw [List.drop_of_length_le (show l.length ≤ i by omega), List.all_nil, if_pos rfl]
  have := ref_l1 d kd tn sc l hl l.length 0 (by omega)
  exact Ev.succ this (fun k => by rw [belfryref11_Right.l0, if_neg (by omega)]; rfl)
 | n + 1, i, hn => by
  have hi : i < l.length := by omega
  have ih := ref_l0 hl n (i + 1) (by omega); rw [drop_cons33 l i hi, List.all_cons]
  refine Ev.succ (g := fun k => (belfryref04_Key.f k l[i]).bind fun t254 => (if t254 = true then (belfryref11_Right.l0 k ((i + 1 : Nat) : Int) d kd tn sc l) else (some 40))) ?_ (fun k => by
   rw [belfryref11_Right.l0, if_pos (by omega), if_pos (by omega), rdOf_at l i hi, wrap_small (n := (i : Int) + 1) (by omega) (by omega), show (i : Int) + 1 = ((i + 1 : Nat) : Int) by omega])
  refine Ev.bind (v := keyB l[i]) ⟨67, fun k hk => ref_key_eq _ k (by omega)⟩ ?_
  cases keyB l[i] with
  | false => exact Ev.const rfl
  | true => simp only [Bool.true_and, if_true]; exact ih
end
theorem ref_right_ev (d : Bool) (kd : Int) (tn : ByteArray) (sc : List S33) (h : List ByteArray) : Ev (fun k => belfryref11_Right.f k d kd tn sc h) (rightL d kd tn sc h) := by
 unfold belfryref11_Right.f rightL
 refine Ev.of_eq (g := fun k => belfryref11_Right.j0 k (decide (kd < 0 ∨ 3 < kd)) d kd tn sc h) ?_ (fun k => by
  by_cases h1 : kd < 0
  · rw [if_pos h1, decide_eq_true (Or.inl h1)]
  rw [if_neg h1]; congr 1; simp [h1])
 by_cases h1 : kd < 0 ∨ 3 < kd
 ·
  rw [decide_eq_true h1, if_pos h1]
  exact Ev.succ (g := fun _ => some 1) (Ev.const rfl) (fun k => by rw [belfryref11_Right.j0, if_pos rfl])
 rw [decide_eq_false h1, if_neg h1]
 have hj1 : Ev (fun k => belfryref11_Right.j1 k (decide (¬ (tn.toList = ([42] : List UInt8) ∨ nameB tn = true))) d kd tn sc h) (if tn.toList = ([42] : List UInt8) ∨ nameB tn = true then (if rightM sc = 0 then (if d = true ∧ ((sc.length : Int) > 1 ∨ (h.length : Int) > 0) then 110 else hidL h) else rightM sc) else 100) := by
  by_cases h2 : tn.toList = ([42] : List UInt8) ∨ nameB tn = true; rotate_left
  ·
   rw [if_neg h2, decide_eq_true h2]
   exact Ev.succ (g := fun _ => some 100) (Ev.const rfl) (fun k => by rw [belfryref11_Right.j1, if_pos rfl])
  rw [if_pos h2, decide_eq_false (fun e => e h2)]
  refine Ev.succ (g := fun k => (belfryref04_RightMatch.f k sc).bind fun t252 => (if t252 = 0 then belfryref11_Right.j2 k (decide (d = true ∧ ((sc.length : Int) > 1 ∨ (h.length : Int) > 0))) d kd tn sc h else (some t252))) ?_ (fun k => by
   rw [belfryref11_Right.j1, if_neg (by simp)]
   congr 1; funext t
   by_cases ht : t = 0
   ·
    rw [if_pos ht, if_pos ht]
    cases d with
    | false => simp
    | true =>
     by_cases hs : (sc.length : Int) > 1; rotate_left
     · rw [if_pos rfl, if_neg hs]; congr 1; rw [decide_eq_decide]; exact ⟨fun e => ⟨rfl, .inr e⟩, fun e => e.2.resolve_left hs⟩
     rw [if_pos rfl, if_pos hs, decide_eq_true (show (true = true ∧ ((sc.length : Int) > 1 ∨ (h.length : Int) > 0)) from ⟨rfl, .inl hs⟩)]
   rw [if_neg ht, if_neg ht])
  refine Ev.bind (ref_rightM_ev sc) ?_
  by_cases h3 : rightM sc = 0; rotate_left
  · simp only [if_neg h3]; exact Ev.const rfl
  simp only [if_pos h3]; by_cases h4 : d = true ∧ ((sc.length : Int) > 1 ∨ (h.length : Int) > 0)
  ·
   rw [decide_eq_true h4, if_pos h4]
   exact Ev.succ (g := fun _ => some 110) (Ev.const rfl) (fun k => by rw [belfryref11_Right.j2, if_pos rfl])
  rw [decide_eq_false h4, if_neg h4]
  unfold hidL
  by_cases h5 : (h.length : Int) > 16
  ·
   rw [if_pos h5]
   exact Ev.succ (g := fun _ => some 7) (Ev.const rfl) (fun k => by rw [belfryref11_Right.j2, if_neg (by simp), if_pos h5])
  rw [if_neg h5]
  have := ref_l0 d kd tn sc h (by omega) h.length 0 (by omega)
  rw [List.drop_zero] at this
  exact Ev.succ this (fun k => by rw [belfryref11_Right.j2, if_neg (by simp), if_neg h5]; rfl)
 refine Ev.succ (g := fun k => if tn.toList = ([42] : List UInt8) then belfryref11_Right.j1 k false d kd tn sc h else (belfryref09_Name.f k tn).bind fun t251 => belfryref11_Right.j1 k (!t251) d kd tn sc h) ?_ (fun k => by rw [belfryref11_Right.j0, if_neg (by simp)])
 by_cases h2 : tn.toList = ([42] : List UInt8)
 ·
  simp only [if_pos h2]
  rw [decide_eq_false (fun e => e (Or.inl h2))] at hj1
  exact hj1
 simp only [if_neg h2]
 refine Ev.bind (v := nameB tn) ⟨41, fun k hk => ref_name_eq tn k (by omega)⟩ ?_
 have e : decide (¬ (tn.toList = ([42] : List UInt8) ∨ nameB tn = true)) = !(nameB tn) := by
  cases nameB tn <;> simp [h2]
 rw [e] at hj1; exact hj1
end Go.Proofs.YtkedidjjhhjdbaaGreatDoor.Pr
end
section
set_option linter.unusedVariables false
set_option linter.unusedSimpArgs false
namespace Go.Proofs.YtkedidjjhhjdbaaGreatDoor.Pr
open Go.RowKit Go.Proofs.YtkedidjjhhjdbaaGreatDoorW.PrintWords Go.Proofs.YtkedidjjhhjdbaaGreatDoorW.PrintLast Go.Proofs.YtkedidjjhhjdbaaGreatDoorW.PrintMore
def WRow (w : World) (base : Nat) (ok : Nat → Prop) (v : Value) (xs : List S33) : Prop :=
  ∃ A c, v = .slice A xs.length c ∧ xs.length ≤ c ∧ xs.length ≤ 9223372036854775807 ∧ (xs = [] ∨ ∃ g cur, A = some ⟨g, 0, none⟩ ∧ ok g ∧ base ≤ g ∧ w.heap[g]? = some (.cells cur 33 (0, 0)) ∧ cur.toList.take (xs.length * 3) = xs.flatMap enc33)
theorem WRow.C {w : World} {base : Nat} {ok : Nat → Prop} {v : Value} {xs : List S33} (h : WRow w base ok v xs) : ∃ A c, v = .slice A xs.length c ∧ xs.length ≤ c ∧ Kd.C k33 w A xs.length xs := by
 obtain ⟨A, c, rfl, hc, hm, h⟩ := h
 refine ⟨A, c, rfl, hc, ?_⟩
 rcases h with rfl | ⟨g, cur, rfl, _, _, hb, ht⟩
 · exact ⟨rfl, by simp, fun h => by simp at h⟩
 refine flat33.C' hm (fun _ => ⟨_, rfl, fun j u hu => ?_⟩)
 have hc' := blk_cell hb j; rw [← ht] at hu; rw [List.getElem?_take] at hu
 split at hu
 rotate_left
 · cases hu
 rw [Array.getElem?_toList] at hu; by_cases hj : j = 0
 · subst hj; exact hc'.trans hu
 simpa [Addr.add, hj] using hc'.trans hu
theorem WRow.of_R {w : World} {base : Nat} {ok : Nat → Prop} {A : Option Addr} {n c : Nat} {xs : List S33} (h : Kd.R k33 33 w base ok (.slice A n c) xs) : WRow w base ok (.slice A n n) xs := by
 obtain ⟨h0, ho⟩ := flat33.R h
 have hC := (Kd.R_reads' h)
 obtain ⟨rfl, hnc, hCC⟩ := hC
 refine ⟨A, xs.length, rfl, Nat.le_refl _, hCC.2.1, ?_⟩
 rcases ho.2 with ⟨hv, hn⟩ | ⟨g, cap, cur, hv, hg, hh, hnc', hcm, hcs, ht⟩
 · exact .inl (List.eq_nil_of_length_eq_zero hn)
 injection hv with h1 h2 h3
 subst h1
 exact .inr ⟨g, cur, rfl, h0 g rfl, hg, hh, ht⟩
def wk : Kd (List S33) where
  sz := 1
  E := [33]
  K := (Kd.slice 33 k33).K
  M := fun w base ok xs cs => ∃ v, cs = [v] ∧ WRow w base ok v xs
  K_len := (Kd.slice 33 k33).K_len
  K_one := (Kd.slice 33 k33).K_one
  K_below := (Kd.slice 33 k33).K_below
  K_of_M := by
    rintro w base ok x cs ⟨v, rfl, h⟩
    obtain ⟨A, c, rfl, hl, hr⟩ := h.C
    exact ⟨A, c, rfl, hl, hr⟩
  M_mono := by
    rintro w base ok ok' x cs hok ⟨v, rfl, A, c, rfl, hc, hm, h⟩
    refine ⟨_, rfl, A, c, rfl, hc, hm, ?_⟩
    rcases h with rfl | ⟨g, cur, rfl, hg, r⟩
    · exact .inl rfl
    · exact .inr ⟨g, cur, rfl, hok g hg, r⟩
  M_bound := by
    rintro w base ok x cs ⟨v, rfl, A, c, rfl, hc, hm, h⟩
    refine ⟨_, rfl, A, c, rfl, hc, hm, ?_⟩
    rcases h with rfl | ⟨g, cur, rfl, hg, hb, hh, ht⟩
    · exact .inl rfl
    · exact .inr ⟨g, cur, rfl, ⟨hg, hb, blk_lt hh, 33, List.mem_cons_self, cur, hh⟩, hb, hh, ht⟩
  M_move := by
    rintro w w1 base ok x cs hmv ⟨v, rfl, A, c, rfl, hc, hm, h⟩
    refine ⟨_, rfl, A, c, rfl, hc, hm, ?_⟩
    rcases h with rfl | ⟨g, cur, rfl, hg, hb, hh, ht⟩
    · exact .inl rfl
    · exact .inr ⟨g, cur, rfl, hg, hb, (hmv g hg).trans hh, ht⟩
  M_lower := by
    rintro w base base' ok x cs hbb ⟨v, rfl, A, c, rfl, hc, hm, h⟩
    refine ⟨_, rfl, A, c, rfl, hc, hm, ?_⟩
    rcases h with rfl | ⟨g, cur, rfl, hg, hb, r⟩
    · exact .inl rfl
    · exact .inr ⟨g, cur, rfl, hg, Nat.le_trans hbb hb, r⟩
def kV : Kd S31 := Kd.iso (Kd.pair Kd.string (Kd.pair wk (Kd.slice 9 Kd.string))) (fun x : S31 => (x.f0, x.f1, x.f2))
theorem kV_mkM (w : World) (base : Nat) (ok : Nat → Prop) (x : S31) {v1 v2 : Value} (g1 : WRow w base ok v1 x.f1) (g2 : Kd.string.R 9 w base ok v2 x.f2) : kV.M w base ok x [.string x.f0, v1, v2] :=
 ⟨[.string x.f0], [v1, v2], rfl, rfl, ⟨[v1], [v2], rfl, ⟨v1, rfl, g1⟩, ⟨v2, rfl, g2⟩⟩⟩
theorem kV_C {w : World} {A : Option Addr} {n : Nat} {xs : List S31} (h : Kd.C kV w A n xs) : Kd.C k31 w A n xs := h
end Go.Proofs.YtkedidjjhhjdbaaGreatDoor.Pr
end
