import Derived.Test.YtkedidjjhhjdbaaGreatDoorBc0
import Derived.Test.YtkedidjjhhjdbaaGreatDoorBc5
import Derived.Test.YtkedidjjhhjdbaaGreatDoorBc7
import Derived.Test.YtkedidjjhhjdbaaGreatDoorBc6
import Derived.Maps.OwnSet
import Derived.Test.YtkedidjjhhjdbaaGreatDoorBc2
import Derived.Lib.SliceRun
import Derived.Sort.AssemblyPlain
import Derived.Shelf.SlSortCmp.WholeK
import Derived.Shelf.SlGeneric
import Derived.Shelf.SlSortCmp.NoneTotal
import Derived.Ground.SlgnProg
import Derived.Ground.SlsfProg
import Derived.Test.YtkedidjjhhjdbaaGreatDoorProg
section
set_option linter.unusedVariables false
set_option linter.unusedSimpArgs false
namespace Go.Proofs.YtkedidjjhhjdbaaGreatDoor.Pr
open Go.RowKit Go.Proofs.YtkedidjjhhjdbaaGreatDoorW.PrintWords Go.Proofs.YtkedidjjhhjdbaaGreatDoorW.PrintLast Go.Proofs.YtkedidjjhhjdbaaGreatDoorW.PrintMore
def keysOf (l : List ByteArray) : List Lit := l.map fun s => .string s.data.toList
def distinctN (l : List ByteArray) : Nat := ((keysOf l).foldl Go.Maps.addKey []).length
def metSet {H : Type} (l : List ByteArray) : DataW H := Go.Maps.setOf (.lit (.bool true)) (keysOf l)
theorem metSet_snoc {H : Type} (l : List ByteArray) (k : Nat) (x : ByteArray) (hx : l[k]? = some x) : metSet (H := H) (l.take (k + 1)) = (metSet (l.take k)).put (.string x.data.toList) (.lit (.bool true)) := by
 unfold metSet keysOf
 rw [List.take_add_one, hx]; simp only [Option.toList_some, List.map_append, List.map_cons, List.map_nil]; rw [Go.Maps.setOf_snoc]
theorem metSet_nil {H : Type} (l : List ByteArray) : metSet (H := H) (l.take 0) = .map [] := by simp [metSet, keysOf, Go.Maps.setOf]
theorem metSet_size {H : Type} (l : List ByteArray) : Go.Maps.size (metSet (H := H) l) = distinctN l := by
 unfold metSet distinctN
 refine Go.Maps.size_setOf _ _ ?_
 intro x hx
 obtain ⟨s, _, rfl⟩ := List.mem_map.1 hx
 simp [WideAt.IsKeyLit]
def policy_Right.bad (tn : ByteArray) : Option Bool := if tn.toList = ([42] : List UInt8) then some false else (policy_name.f tn).bind fun b => some (!b)
def policy_Right.rest (k : Nat) (d : Bool) (l3 : List S33) (l4 : List ByteArray) : Option Int :=
  (attr_RightMatch.f k l3).bind fun why =>
    if why = 0 then
      (if d = true ∧ ((l3.length : Int) > 1 ∨ (l4.length : Int) > 0) then some 110
      else if (l4.length : Int) > 16 then some 7
      else (slices_ContainsFunc_string_string.f k l4).bind fun b =>
        if b = true then some 40
        else if l4.all (fun s => decide (s.size ≤ 9223372036854775807)) = true then (if (distinctN l4 : Int) < (l4.length : Int) then some 6 else some 0) else none)
    else some why
def policy_Right.f (k : Nat) (d : Bool) (kd : Int) (tn : ByteArray) (l3 : List S33) (l4 : List ByteArray) : Option Int :=
  (policy_Kind.f kd).bind fun t => if t.toList = ([] : List UInt8) then some 1 else (policy_Right.bad tn).bind fun bad => if bad = true then some 100 else policy_Right.rest k d l3 l4
structure RtI (w : World) (cs : Array Value) (W : World) : Prop where
  bk : W.heap[w.heap.size]? = some (.cells cs 46 (0, 0))
  be : Below w.heap.size w W
theorem RtI.below {w W W' : World} {cs : Array Value} (h : RtI w cs W) (hb : Below W.heap.size W W') : RtI w cs W' := ⟨blk_below h.bk hb, h.be.trans (hb.mono h.be.size)⟩
theorem RtI.drewN {w W : World} {cs : Array Value} (h : RtI w cs W) (n : Nat) : RtI w cs (W.drewN n) := ⟨h.bk, pw_below_drewN h.be n⟩
theorem RtI.cell {w W : World} {cs : Array Value} (h : RtI w cs W) (i : Nat) (v : Value) (hv : cs[i]? = some v) : W.cell? ⟨w.heap.size, i, none⟩ = some v := (blk_cell h.bk i).trans hv
theorem RtI.grown {w W W' : World} {cs : Array Value} {b : Nat} (h : RtI w cs W) (hg : W.grownBy W' (some b)) (hb : w.heap.size < b) : RtI w cs W' :=
 ⟨blk_grown h.bk hg (by simp; omega), h.be.grown hg h.be.size (fun j hj => by cases hj; omega)⟩
theorem law9 : Go.Maps.Keyed Tryz.prog 9 := Go.Maps.string_keyed Tryz.underlying9
set_option maxHeartbeats 8000000 in
set_option maxRecDepth 100000 in
theorem policy_Right.calls (k : Nat) (d : Bool) (kd : Int) (tn : ByteArray) (A3 : Option Addr) (c3 : Nat) (l3 : List S33) (A4 : Option Addr) (c4 : Nat) (l4 : List ByteArray) (r : Int) (w : World)
  (hr3 : Kd.C k33 w A3 l3.length l3) (hc3 : l3.length ≤ c3) (hr4 : Kd.C Kd.string w A4 l4.length l4) (hc4 : l4.length ≤ c4) (h : policy_Right.f k d kd tn l3 l4 = some r)
  (he_ : EnvW w := by repeat (first | with_reducible assumption | with_reducible exact env_of (by with_reducible assumption) (by with_reducible assumption) | with_reducible exact env_out (by with_reducible assumption) | with_reducible apply env_alloc | with_reducible apply env_drewN | with_reducible apply env_drew | with_reducible refine env_set ?_ (by with_reducible assumption) (by with_reducible assumption))) :
  Calls Tryz.prog 22 #[.agg #[.bool d, .int .i64 kd, .string tn, .slice A3 l3.length c3, .slice A4 l4.length c4]] w fun e w' => e = .returned (.int .i64 r) ∧ Below w.heap.size w w' := by
 unfold policy_Right.f at h
 obtain ⟨t, ht, h⟩ := Option.bind_eq_some_iff.mp h
 have hmm := @run_makeMap Tryz.prog; have HR3 := Aside0.mk hr3; have HR4 := Aside0.mk hr4; have HE := Aside0.mk he_; have HT := Aside0.mk ht; have HH := Aside0.mk h; clear hr3 hr4 he_ ht h
 go_enter Tryz.func22, Tryz.ntmps22
 go_wp2_with fail
 have HI : Aside0 (RtI w #[.bool d, .int .i64 kd, .string tn, .slice A3 l3.length c3, .slice A4 l4.length c4] (w.alloc (.cells #[.bool d, .int .i64 kd, .string tn, .slice A3 l3.length c3, .slice A4 l4.length c4] 46))) := ⟨⟨blk_new _ _, (Below.refl _ _).alloc (Nat.le_refl _) _⟩⟩
 generalize w.alloc (.cells #[.bool d, .int .i64 kd, .string tn, .slice A3 l3.length c3, .slice A4 l4.length c4] 46) = W0 at HI ⊢
 refine (policy_Kind.calls kd t _ HT.out).mono ?_
 rintro e w1 ⟨rfl, ⟨nd, rfl⟩⟩
 replace HI := Aside0.mk (HI.out.drewN nd)
 generalize W0.drewN nd = W1 at HI ⊢
 clear HT; by_cases c1 : t.toList = ([] : List UInt8)
 ·
  have h := HH.out; rw [if_pos c1] at h
  obtain rfl := Option.some.inj h
  have c1b0 : (t.toList == ([] : List UInt8)) = true := beq_iff_eq.mpr c1
  clear c1 h HH; go_wp2; go_ret
  exact ⟨rfl, HI.out.be⟩
 have h := HH.out; rw [if_neg c1] at h
 have c1b0 : (t.toList == ([] : List UInt8)) = false := beq_eq_false_iff_ne.mpr c1
 obtain ⟨bad, hb, h⟩ := Option.bind_eq_some_iff.mp h
 have HB := Aside0.mk hb; have HH := Aside0.mk h; clear c1 h hb; have hx2 := HI.out.cell 2 (.string tn) rfl
 go_upto_region 3 with (fail)
 go_cut [12] (fun v12 wc => v12 = .bool bad ∧ Aside0 (RtI w #[.bool d, .int .i64 kd, .string tn, .slice A3 l3.length c3, .slice A4 l4.length c4] wc))
 case first =>
  have hb := HB.out
  unfold policy_Right.bad at hb
  by_cases c2 : tn.toList = ([42] : List UInt8)
  ·
   rw [if_pos c2] at hb
   obtain rfl := Option.some.inj hb
   have c2b0 : (tn.toList == ([42] : List UInt8)) = true := beq_iff_eq.mpr c2
   have c2b1 : (tn.toList != ([42] : List UInt8)) = false := bne_eq_false_iff_eq.mpr c2
   clear c2 hb; go_wp2
   go_meet
   case rel => exact ⟨rfl, HI⟩
  rw [if_neg c2] at hb
  obtain ⟨b, hb1, hb2⟩ := Option.bind_eq_some_iff.mp hb
  obtain rfl := Option.some.inj hb2
  have c2b0 : (tn.toList == ([42] : List UInt8)) = false := beq_eq_false_iff_ne.mpr c2
  have c2b1 : (tn.toList != ([42] : List UInt8)) = true := bne_iff_ne.mpr c2
  have HB1 := Aside0.mk hb1; clear c2 hb hb1 hb2
  go_wp2_with fail
  refine (policy_name.calls tn b _ HB1.out).mono ?_
  rintro e w2 ⟨rfl, hbl⟩
  have HI2 := Aside0.mk (HI.out.below hbl); clear hbl HI hx2; go_wp2
  go_meet
  case rel => exact ⟨rfl, HI2⟩
 clear HI hx2 HB
 obtain ⟨rfl, HI⟩ := hcut
 have h := HH.out; clear HH; by_cases c3 : bad = true
 ·
  subst c3; rw [if_pos rfl] at h
  obtain rfl := Option.some.inj h
  clear h; go_wp2; go_ret
  exact ⟨rfl, HI.out.be⟩
 rw [if_neg c3] at h
 obtain rfl : bad = false := Bool.eq_false_iff.mpr c3
 clear c3
 unfold policy_Right.rest at h
 obtain ⟨why, hw, h⟩ := Option.bind_eq_some_iff.mp h
 have HW := Aside0.mk hw; have HH := Aside0.mk h; clear hw h; have hx3 := HI.out.cell 3 (.slice A3 l3.length c3) rfl
 go_wp2_with fail
 refine (attr_RightMatch.calls k A3 c3 l3 why _ (Kd.C_below HR3.out HI.out.be) hc3 HW.out (env_below HE.out HI.out.be)).mono ?_
 rintro e w3 ⟨rfl, hbl⟩
 have HI3 := Aside0.mk (HI.out.below hbl); clear hbl HI hx3 HW; have h := HH.out; clear HH; by_cases c4 : why = 0; rotate_left
 ·
  rw [if_neg c4] at h
  obtain rfl := Option.some.inj h
  have c4b0 : (why != 0) = true := bne_iff_ne.mpr c4
  clear h c4; go_wp2; go_ret
  exact ⟨rfl, HI3.out.be⟩
 subst c4; rw [if_pos rfl] at h; have HH := Aside0.mk h; clear h; have hx0 := HI3.out.cell 0 (.bool d) rfl; have hx3 := HI3.out.cell 3 (.slice A3 l3.length c3) rfl; have hx4 := HI3.out.cell 4 (.slice A4 l4.length c4) rfl
 go_upto_region 8 with (fail)
 go_cut [28] (fun v28 wc => v28 = .bool (decide (d = true ∧ ((l3.length : Int) > 1 ∨ (l4.length : Int) > 0))) ∧ Aside0 (RtI w #[.bool d, .int .i64 kd, .string tn, .slice A3 l3.length c3, .slice A4 l4.length c4] wc))
 case first =>
  clear HH; by_cases d1 : d = true; rotate_left
  ·
   obtain rfl : d = false := Bool.eq_false_iff.mpr d1
   have E3 : Aside0 (decide (false = true ∧ ((l3.length : Int) > 1 ∨ (l4.length : Int) > 0)) = false) := ⟨decide_eq_false (fun hh => by simp at hh)⟩
   clear d1; go_wp2
   go_meet
   case rel => exact ⟨by rw [E3.out], HI3⟩
  subst d1; by_cases d2 : (l3.length : Int) > 1
  ·
   have e1 : decide (1 < (l3.length : Int)) = true := decide_eq_true d2
   have e2 : decide (1 < l3.length) = true := decide_eq_true (by omega)
   have E3 : Aside0 (decide (true = true ∧ ((l3.length : Int) > 1 ∨ (l4.length : Int) > 0)) = true) := ⟨decide_eq_true ⟨rfl, .inl d2⟩⟩
   clear d2; go_wp2
   go_meet
   case rel => exact ⟨by rw [E3.out], HI3⟩
  have e1 : decide (1 < (l3.length : Int)) = false := decide_eq_false d2
  have e2 : decide (1 < l3.length) = false := decide_eq_false (by omega)
  by_cases d3 : (l4.length : Int) > 0
  ·
   have e4 : decide (0 < (l4.length : Int)) = true := decide_eq_true d3
   have e5 : decide (0 < l4.length) = true := decide_eq_true (by omega)
   have E3 : Aside0 (decide (true = true ∧ ((l3.length : Int) > 1 ∨ (l4.length : Int) > 0)) = true) := ⟨decide_eq_true ⟨rfl, .inr d3⟩⟩
   clear d2 d3; go_wp2
   go_meet
   case rel => exact ⟨by rw [E3.out], HI3⟩
  have e4 : decide (0 < (l4.length : Int)) = false := decide_eq_false d3
  have e5 : decide (0 < l4.length) = false := decide_eq_false (by omega)
  have E3 : Aside0 (decide (true = true ∧ ((l3.length : Int) > 1 ∨ (l4.length : Int) > 0)) = false) := ⟨decide_eq_false (fun hh => hh.2.elim d2 d3)⟩
  clear d2 d3; go_wp2
  go_meet
  case rel => exact ⟨by rw [E3.out], HI3⟩
 clear HI3 hx0 hx3 hx4
 obtain ⟨rfl, HI⟩ := hcut
 have h := HH.out; clear HH; by_cases c5 : d = true ∧ ((l3.length : Int) > 1 ∨ (l4.length : Int) > 0)
 ·
  rw [if_pos c5] at h
  obtain rfl := Option.some.inj h
  rw [decide_eq_true c5]; clear h c5; go_wp2; go_ret
  exact ⟨rfl, HI.out.be⟩
 rw [if_neg c5] at h; rw [decide_eq_false c5]; clear c5; have hx4 := HI.out.cell 4 (.slice A4 l4.length c4) rfl; by_cases c6 : (l4.length : Int) > 16
 ·
  rw [if_pos c6] at h
  obtain rfl := Option.some.inj h
  have e1 : decide (16 < (l4.length : Int)) = true := decide_eq_true c6
  have e2 : decide (16 < l4.length) = true := decide_eq_true (by omega)
  clear h c6; go_wp2; go_ret
  exact ⟨rfl, HI.out.be⟩
 rw [if_neg c6] at h
 have e1 : decide (16 < (l4.length : Int)) = false := decide_eq_false c6
 have e2 : decide (16 < l4.length) = false := decide_eq_false (by omega)
 have hl4 : l4.length ≤ 16 := by omega
 clear c6
 obtain ⟨b, hb, h⟩ := Option.bind_eq_some_iff.mp h
 have HB := Aside0.mk hb; have HH := Aside0.mk h; clear hb h
 go_wp2_with fail
 refine (slices_ContainsFunc_string_string.calls k A4 c4 l4 b _ (Kd.C_below HR4.out HI.out.be) hc4 HB.out).mono ?_
 rintro e w4 ⟨rfl, ⟨nd4, rfl⟩⟩
 replace HI := Aside0.mk (HI.out.drewN nd4)
 clear HB hx4; have hx4 := HI.out.cell 4 (.slice A4 l4.length c4) rfl; have h := HH.out; clear HH; by_cases c7 : b = true
 ·
  subst c7; rw [if_pos rfl] at h
  obtain rfl := Option.some.inj h
  clear h; go_wp2; go_ret
  exact ⟨rfl, HI.out.be⟩
 rw [if_neg c7] at h
 obtain rfl : b = false := Bool.eq_false_iff.mpr c7
 clear c7
 by_cases c8 : l4.all (fun s => decide (s.size ≤ 9223372036854775807)) = true
 rotate_left
 · rw [if_neg c8] at h; cases h
 rw [if_pos c8] at h; have HH := Aside0.mk h; have HS := Aside0.mk c8; clear h c8
 go_upto_region 14 with (fail)
 clear hx4
 generalize wc.drewN nd4 = W5 at HI ⊢
 have hx4 : (W5.alloc (.map #[] 0)).cell? ⟨w.heap.size, 4, none⟩ = some (.slice A4 l4.length c4) := (HI.out.below ((Below.refl _ _).alloc (Nat.le_refl _) _)).cell 4 (.slice A4 l4.length c4) rfl
 have hM : w.heap.size < W5.heap.size := blk_lt HI.out.bk
 go_wp2
 go_loopw [56] (fun i wr => ∃ j : Nat, j ≤ l4.length ∧ i = .int .i64 j ∧ Aside0 (wr.ownsMap Tryz.prog 9 (plainElem (H := Unit) Tryz.prog 4) W5.heap.size j (metSet (l4.take j))) ∧ Aside0 (RtI w #[.bool d, .int .i64 kd, .string tn, .slice A3 l3.length c3, .slice A4 l4.length c4] wr)) (fun i _ => l4.length - (intOf i).toNat)
 case atStart => exact ⟨0, Nat.zero_le _, rfl, ⟨by rw [metSet_nil]; exact World.ownsMap_made _ _ _ _⟩, ⟨HI.out.below ((Below.refl _ _).alloc (Nat.le_refl _) _)⟩⟩
 case round =>
  clear HI hx4
  obtain ⟨j, hj, rfl, HO, HI⟩ := hrel
  by_cases hlt : j < l4.length; rotate_left
  ·
   obtain rfl : j = l4.length := by omega
   have c9b0 : decide ((l4.length : Int) < (l4.length : Int)) = false := decide_eq_false (by omega)
   have c9b1 : decide (l4.length < l4.length) = false := decide_eq_false hlt
   have hx4 := HI.out.cell 4 (.slice A4 l4.length c4) rfl
   have hsz : Go.Maps.size (metSet (H := Unit) (l4.take l4.length)) = distinctN l4 := by rw [List.take_length, metSet_size]
   have h := HH.out; clear HH; by_cases c10 : (distinctN l4 : Int) < (l4.length : Int)
   ·
    rw [if_pos c10] at h
    obtain rfl := Option.some.inj h
    have c10b0 : decide ((distinctN l4 : Int) < (l4.length : Int)) = true := decide_eq_true c10
    have c10b1 : decide (distinctN l4 < l4.length) = true := decide_eq_true (by omega)
    clear h c10 hlt
    go_wp2_with (first
     | (at_len; refine wpList_len_own _ rfl _ 91 rfl 9 4 Tryz.underlying91 _ W5.heap.size _ _ rfl HO.out ?_; rw [hsz])
     | go_in)
    go_ret
    exact ⟨rfl, HI.out.be⟩
   rw [if_neg c10] at h
   obtain rfl := Option.some.inj h
   have c10b0 : decide ((distinctN l4 : Int) < (l4.length : Int)) = false := decide_eq_false c10
   have c10b1 : decide (distinctN l4 < l4.length) = false := decide_eq_false (by omega)
   clear h c10 hlt
   go_wp2_with (first
    | (at_len; refine wpList_len_own _ rfl _ 91 rfl 9 4 Tryz.underlying91 _ W5.heap.size _ _ rfl HO.out ?_; rw [hsz])
    | go_in)
   go_ret
   exact ⟨rfl, HI.out.be⟩
  have c9b0 : decide ((j : Int) < (l4.length : Int)) = true := decide_eq_true (by omega)
  have c9b1 : decide (j < l4.length) = true := decide_eq_true hlt
  have p9 : (0 : Int) ≤ (j : Int) := by omega
  have q9 : (j : Int) < (l4.length : Int) := by omega
  obtain ⟨ad, e9, hx9⟩ := Kd.at_string (Kd.C_below HR4.out HI.out.be) (j : Int) p9 q9
  cases e9; rw [Int.toNat_natCast] at hx9
  have hg : l4[j]? = some (rdOf ByteArray.empty l4 (j : Int)) := by
   unfold rdOf
   rw [List.getElem?_eq_getElem hlt]
   simp [List.getD, List.getElem?_eq_getElem hlt]
  have hkey : keyOf Tryz.prog 9 (.string (rdOf ByteArray.empty l4 (j : Int))) = some (.string (rdOf ByteArray.empty l4 (j : Int)).data.toList) := by
   refine Go.WideMaps.keyOf_string_mk Tryz.underlying9 ?_
   have := List.all_eq_true.1 HS.out _ (List.mem_of_getElem? hg)
   unfold maxLen
   exact of_decide_eq_true this
  replace p9 := eq_true p9; replace q9 := eq_true q9
  go_wp2_with (first
   | (at_mapUpdate; refine wpList_mapUpdate_own _ rfl _ _ _ 91 rfl 9 4 law9 Tryz.underlying91 (plainElem (H := Unit) Tryz.prog 4) W5.heap.size j _ rfl HO.out (by unfold maxLen; omega) _ _ _ rfl rfl hkey _ [] (plainElem_bool Tryz.underlying4 true) ?_; intro w1 hown1 hgrow1)
   | go_in)
  go_roundw
  case rel => exact ⟨j + 1, hlt, by go_num, ⟨by rw [metSet_snoc l4 j _ hg]; exact hown1⟩, ⟨HI.out.grown hgrow1 hM⟩⟩
  case measure => simp [intOf]; omega
end Go.Proofs.YtkedidjjhhjdbaaGreatDoor.Pr
end
section
set_option linter.unusedVariables false
set_option linter.unusedSimpArgs false
namespace Go.Proofs.YtkedidjjhhjdbaaGreatDoor.Pr
open Go.RowKit Go.Proofs.YtkedidjjhhjdbaaGreatDoorW.PrintWords Go.Proofs.YtkedidjjhhjdbaaGreatDoorW.PrintLast Go.Proofs.YtkedidjjhhjdbaaGreatDoorW.PrintMore
def twB : List ByteArray → List ByteArray → Bool
  | _, [] => false
  | seen, x :: l => seen.any (fun y => y.toList == x.toList) || twB (seen ++ [x]) l
theorem same_key (a b : ByteArray) : (Lit.string a.data.toList).sameKey (Lit.string b.data.toList) = (a.toList == b.toList) := by
 rw [Lib.toList_data, Lib.toList_data]; rw [Bool.eq_iff_iff]
 simp [Lit.sameKey]
theorem distinct_from : ∀ (l seen : List ByteArray) (acc : List Lit), (∀ x : ByteArray, acc.any (fun y => y.sameKey (.string x.data.toList)) = seen.any (fun y => y.toList == x.toList)) →
  ((keysOf l).foldl Go.Maps.addKey acc).length ≤ acc.length + l.length ∧ (((keysOf l).foldl Go.Maps.addKey acc).length < acc.length + l.length ↔ twB seen l = true)
 | [], seen, acc, h => by simp [keysOf, twB]
 | x :: l, seen, acc, h => by
  have e : (keysOf (x :: l)).foldl Go.Maps.addKey acc = (keysOf l).foldl Go.Maps.addKey (Go.Maps.addKey acc (.string x.data.toList)) := rfl
  rw [e, twB]; have hx := h x
  cases hs : seen.any (fun y => y.toList == x.toList) with
  | true =>
   rw [hs] at hx
   have ek : Go.Maps.addKey acc (.string x.data.toList) = acc := by unfold Go.Maps.addKey; rw [if_pos hx]
   rw [ek]
   have ih := distinct_from l (seen ++ [x]) acc (fun y => by
    rw [h y, List.any_append]
    cases hy : seen.any (fun z => z.toList == y.toList) with
    | true => rfl
    | false =>
     by_cases hxy : x.toList = y.toList
     · rw [hxy] at hs; rw [hs] at hy; cases hy
     simp [hxy])
   have e2 : (x :: l).length = l.length + 1 := rfl
   refine ⟨by omega, ?_⟩
   rw [Bool.true_or]
   exact ⟨fun _ => rfl, fun _ => by omega⟩
  | false =>
   rw [hs] at hx
   have ek : Go.Maps.addKey acc (.string x.data.toList) = acc ++ [.string x.data.toList] := by unfold Go.Maps.addKey; rw [if_neg (by rw [hx]; simp)]
   rw [ek]
   have ih := distinct_from l (seen ++ [x]) (acc ++ [.string x.data.toList]) (fun y => by
    rw [List.any_append, List.any_append, h y]
    congr 1
    simp only [List.any_cons, List.any_nil, Bool.or_false]
    exact same_key x y)
   have e2 : (x :: l).length = l.length + 1 := rfl
   have e3 : (acc ++ [Lit.string x.data.toList]).length = acc.length + 1 := by simp
   rw [e3] at ih
   refine ⟨by omega, ?_⟩
   rw [Bool.false_or, ← ih.2]; omega
theorem distinct_tw (l : List ByteArray) : ((distinctN l : Int) < (l.length : Int)) ↔ twB [] l = true := by
 have := (distinct_from l [] [] (fun x => rfl)).2
 rw [List.length_nil, Nat.zero_add] at this; rw [← this]
 unfold distinctN
 exact Int.ofNat_lt
def hidL (h : List ByteArray) : Int := if (h.length : Int) > 16 then 7 else if h.all keyB = true then (if twB [] h = true then 6 else 0) else 40
def rightL (d : Bool) (kd : Int) (tn : ByteArray) (sc : List S33) (h : List ByteArray) : Int :=
  if kd < 0 ∨ 3 < kd then 1 else if tn.toList = ([42] : List UInt8) ∨ nameB tn = true then (if rightM sc = 0 then (if d = true ∧ ((sc.length : Int) > 1 ∨ (h.length : Int) > 0) then 110 else hidL h) else rightM sc) else 100
theorem kind_nil (c : Int) : ∃ b, policy_Kind.f c = some b ∧ (b.toList = ([] : List UInt8) ↔ c < 0 ∨ 3 < c) := by
 unfold policy_Kind.f
 by_cases h1 : c = 0
 · exact ⟨_, if_pos h1, by simp [Lib.toList_data]; omega⟩
 rw [if_neg h1]; by_cases h2 : c = 1
 · exact ⟨_, if_pos h2, by simp [Lib.toList_data]; omega⟩
 rw [if_neg h2]; by_cases h3 : c = 2
 · exact ⟨_, if_pos h3, by simp [Lib.toList_data]; omega⟩
 rw [if_neg h3]; by_cases h4 : c = 3
 · exact ⟨_, if_pos h4, by simp [Lib.toList_data]; omega⟩
 exact ⟨_, if_neg h4, by simp [Lib.toList_data]; omega⟩
theorem rdOf_at (l : List ByteArray) (i : Nat) (h : i < l.length) : rdOf ByteArray.empty l (i : Int) = l[i] := by simp [rdOf, h]
theorem index_l0 (l : List ByteArray) (hl : l.length < 4611686018427387904) : ∀ (n i : Nat), i + n = l.length → ∀ k, n + 70 < k → ∃ r, slices_IndexFunc_string_string.l0 k l (l.length : Int) (i : Int) = some r ∧ (decide (r ≥ 0) = !((l.drop i).all keyB))
 | _, _, _, 0, hk => absurd hk (by omega)
 | 0, i, hn, k + 1, hk => by
  rw [slices_IndexFunc_string_string.l0, if_neg (by omega), List.drop_of_length_le (show l.length ≤ i by omega)]
  exact ⟨_, rfl, rfl⟩
 | n + 1, i, hn, k + 1, hk => by
  have hi : i < l.length := by omega
  obtain ⟨r, hr, hd⟩ := index_l0 l hl n (i + 1) (by omega) k (by omega)
  rw [slices_IndexFunc_string_string.l0, if_pos (by omega), if_pos (by omega), if_pos (by omega), rdOf_at l i hi, wrap_small (n := (i : Int) + 1) (by omega) (by omega), show (i : Int) + 1 = ((i + 1 : Nat) : Int) by omega, hr, drop_cons33 l i hi, List.all_cons]
  unfold policy_Right_1.f
  rw [key_eq _ k (by omega), Option.bind_some, Option.bind_some]
  cases keyB l[i] with
  | false => exact ⟨_, rfl, by simp⟩
  | true => exact ⟨r, rfl, hd⟩
theorem contains_ev (l : List ByteArray) (hl : l.length < 4611686018427387904) : Ev (fun k => slices_ContainsFunc_string_string.f k l) (!(l.all keyB)) := by
 refine ⟨l.length + 71, fun k hk => ?_⟩
 obtain ⟨r, hr, hd⟩ := index_l0 l hl l.length 0 (by omega) k (by omega)
 rw [List.drop_zero] at hd
 unfold slices_ContainsFunc_string_string.f slices_IndexFunc_string_string.f
 dsimp only
 rw [show (0 : Int) = ((0 : Nat) : Int) from rfl, hr, Option.bind_some, ← hd]; rfl
theorem key_size {s : ByteArray} (h : keyB s = true) : s.size ≤ 64 := by
 unfold keyB at h
 simp only [Bool.and_eq_true, decide_eq_true_eq] at h
 exact h.1.1.2
theorem right_ev (d : Bool) (kd : Int) (tn : ByteArray) (sc : List S33) (h : List ByteArray) : Ev (fun k => policy_Right.f k d kd tn sc h) (rightL d kd tn sc h) := by
 obtain ⟨b, hb, hbn⟩ := kind_nil kd
 unfold policy_Right.f rightL
 simp only [hb, Option.bind_some]; by_cases h1 : kd < 0 ∨ 3 < kd
 · simp only [if_pos h1, if_pos (hbn.2 h1)]; exact Ev.const rfl
 simp only [if_neg h1, if_neg (fun e => h1 (hbn.1 e))]
 have hbad : policy_Right.bad tn = some (decide (¬ (tn.toList = ([42] : List UInt8) ∨ nameB tn = true))) := by
  unfold policy_Right.bad
  by_cases h2 : tn.toList = ([42] : List UInt8)
  · simp [h2]
  rw [if_neg h2, name_eq, Option.bind_some]
  cases nameB tn <;> simp [h2]
 simp only [hbad, Option.bind_some]; by_cases h2 : tn.toList = ([42] : List UInt8) ∨ nameB tn = true; rotate_left
 · simp only [if_neg h2, decide_eq_true h2, if_true]; exact Ev.const rfl
 simp only [if_pos h2, decide_eq_false (fun e : ¬ (tn.toList = ([42] : List UInt8) ∨ nameB tn = true) => e h2), Bool.false_eq_true, if_false]
 unfold policy_Right.rest
 refine Ev.bind (rightM_ev sc) ?_
 by_cases h3 : rightM sc = 0; rotate_left
 · simp only [if_neg h3]; exact Ev.const rfl
 simp only [if_pos h3]; by_cases h4 : d = true ∧ ((sc.length : Int) > 1 ∨ (h.length : Int) > 0)
 · simp only [if_pos h4]; exact Ev.const rfl
 simp only [if_neg h4]
 unfold hidL
 by_cases h5 : (h.length : Int) > 16
 · simp only [if_pos h5]; exact Ev.const rfl
 simp only [if_neg h5]
 refine Ev.bind (contains_ev h (by omega)) ?_
 cases ha : h.all keyB with
 | false => exact Ev.const rfl
 | true =>
  have hsz : (h.all fun s => decide (s.size ≤ 9223372036854775807)) = true := by
   rw [List.all_eq_true] at ha ⊢
   exact fun x hx => decide_eq_true (Nat.le_trans (key_size (ha x hx)) (by omega))
  simp only [Bool.not_true, Bool.false_eq_true, if_false, if_true, if_pos hsz]
  refine Ev.const ?_
  by_cases ht : twB [] h = true
  · rw [if_pos ((distinct_tw h).2 ht), if_pos ht]
  rw [if_neg (fun e => ht ((distinct_tw h).1 e)), if_neg ht]
end Go.Proofs.YtkedidjjhhjdbaaGreatDoor.Pr
end
section
set_option linter.unusedVariables false
set_option linter.unusedSimpArgs false
namespace Go.Proofs.YtkedidjjhhjdbaaGreatDoor.Pr
open Go.RowKit Go.Proofs.YtkedidjjhhjdbaaGreatDoorW.PrintWords Go.Proofs.YtkedidjjhhjdbaaGreatDoorW.PrintLast Go.Proofs.YtkedidjjhhjdbaaGreatDoorW.PrintMore
def WRow (w : World) (base : Nat) (ok : Nat → Prop) (v : Value) (xs : List S33) : Prop :=
  ∃ A c, v = .slice A xs.length c ∧ xs.length ≤ c ∧ xs.length ≤ 9223372036854775807 ∧ (xs = [] ∨ ∃ g cur, A = some ⟨g, 0, none⟩ ∧ ok g ∧ base ≤ g ∧ w.heap[g]? = some (.cells cur 33 (0, 0)) ∧ cur.toList.take (xs.length * 3) = xs.flatMap enc33)
theorem WRow.C {w : World} {base : Nat} {ok : Nat → Prop} {v : Value} {xs : List S33} (h : WRow w base ok v xs) : ∃ A c, v = .slice A xs.length c ∧ xs.length ≤ c ∧ Kd.C k33 w A xs.length xs := by
 obtain ⟨A, c, rfl, hc, hm, h⟩ := h
 refine ⟨A, c, rfl, hc, ?_⟩
 rcases h with rfl | ⟨g, cur, rfl, _, _, hb, ht⟩
 · exact ⟨rfl, by simp, fun h => by simp at h⟩
 refine flat33.C' hm (fun _ => ⟨_, rfl, fun j u hu => ?_⟩)
 have hc' := blk_cell hb j; rw [← ht] at hu; rw [List.getElem?_take] at hu
 split at hu
 rotate_left
 · cases hu
 rw [Array.getElem?_toList] at hu; by_cases hj : j = 0
 · subst hj; exact hc'.trans hu
 simpa [Addr.add, hj] using hc'.trans hu
theorem WRow.of_R {w : World} {base : Nat} {ok : Nat → Prop} {A : Option Addr} {n c : Nat} {xs : List S33} (h : Kd.R k33 33 w base ok (.slice A n c) xs) : WRow w base ok (.slice A n n) xs := by
 obtain ⟨h0, ho⟩ := flat33.R h
 have hC := (Kd.R_reads' h)
 obtain ⟨rfl, hnc, hCC⟩ := hC
 refine ⟨A, xs.length, rfl, Nat.le_refl _, hCC.2.1, ?_⟩
 rcases ho.2 with ⟨hv, hn⟩ | ⟨g, cap, cur, hv, hg, hh, hnc', hcm, hcs, ht⟩
 · exact .inl (List.eq_nil_of_length_eq_zero hn)
 injection hv with h1 h2 h3
 subst h1
 exact .inr ⟨g, cur, rfl, h0 g rfl, hg, hh, ht⟩
def wk : Kd (List S33) where
  sz := 1
  E := [33]
  K := (Kd.slice 33 k33).K
  M := fun w base ok xs cs => ∃ v, cs = [v] ∧ WRow w base ok v xs
  K_len := (Kd.slice 33 k33).K_len
  K_one := (Kd.slice 33 k33).K_one
  K_below := (Kd.slice 33 k33).K_below
  K_of_M := by
    rintro w base ok x cs ⟨v, rfl, h⟩
    obtain ⟨A, c, rfl, hl, hr⟩ := h.C
    exact ⟨A, c, rfl, hl, hr⟩
  M_mono := by
    rintro w base ok ok' x cs hok ⟨v, rfl, A, c, rfl, hc, hm, h⟩
    refine ⟨_, rfl, A, c, rfl, hc, hm, ?_⟩
    rcases h with rfl | ⟨g, cur, rfl, hg, r⟩
    · exact .inl rfl
    · exact .inr ⟨g, cur, rfl, hok g hg, r⟩
  M_bound := by
    rintro w base ok x cs ⟨v, rfl, A, c, rfl, hc, hm, h⟩
    refine ⟨_, rfl, A, c, rfl, hc, hm, ?_⟩
    rcases h with rfl | ⟨g, cur, rfl, hg, hb, hh, ht⟩
    · exact .inl rfl
    · exact .inr ⟨g, cur, rfl, ⟨hg, hb, blk_lt hh, 33, List.mem_cons_self, cur, hh⟩, hb, hh, ht⟩
  M_move := by
    rintro w w1 base ok x cs hmv ⟨v, rfl, A, c, rfl, hc, hm, h⟩
    refine ⟨_, rfl, A, c, rfl, hc, hm, ?_⟩
    rcases h with rfl | ⟨g, cur, rfl, hg, hb, hh, ht⟩
    · exact .inl rfl
    · exact .inr ⟨g, cur, rfl, hg, hb, (hmv g hg).trans hh, ht⟩
  M_lower := by
    rintro w base base' ok x cs hbb ⟨v, rfl, A, c, rfl, hc, hm, h⟩
    refine ⟨_, rfl, A, c, rfl, hc, hm, ?_⟩
    rcases h with rfl | ⟨g, cur, rfl, hg, hb, r⟩
    · exact .inl rfl
    · exact .inr ⟨g, cur, rfl, hg, Nat.le_trans hbb hb, r⟩
def kV : Kd S31 := Kd.iso (Kd.pair Kd.string (Kd.pair wk (Kd.slice 9 Kd.string))) (fun x : S31 => (x.f0, x.f1, x.f2))
theorem kV_mkM (w : World) (base : Nat) (ok : Nat → Prop) (x : S31) {v1 v2 : Value} (g1 : WRow w base ok v1 x.f1) (g2 : Kd.string.R 9 w base ok v2 x.f2) : kV.M w base ok x [.string x.f0, v1, v2] :=
 ⟨[.string x.f0], [v1, v2], rfl, rfl, ⟨[v1], [v2], rfl, ⟨v1, rfl, g1⟩, ⟨v2, rfl, g2⟩⟩⟩
theorem kV_C {w : World} {A : Option Addr} {n : Nat} {xs : List S31} (h : Kd.C kV w A n xs) : Kd.C k31 w A n xs := h
end Go.Proofs.YtkedidjjhhjdbaaGreatDoor.Pr
end
section
set_option linter.unusedVariables false
set_option linter.unusedSimpArgs false
namespace Go.Proofs.YtkedidjjhhjdbaaGreatDoor.Pr
open Go.RowKit Go.Proofs.YtkedidjjhhjdbaaGreatDoorW.PrintWords Go.Proofs.YtkedidjjhhjdbaaGreatDoorW.PrintLast Go.Proofs.YtkedidjjhhjdbaaGreatDoorW.PrintMore
structure StopAt2 (p : Prop) : Prop where
  out : p
set_option maxHeartbeats 1000000 in
set_option maxRecDepth 100000 in
theorem slices_Grow_M.calls (n : Nat) (w : World) (hn : n * 40 ≤ 140737488355328) :
  Calls Tryz.prog 91 #[.slice none 0 0, .int .i64 n] w fun e w' => ∃ v0_ : Value, e = .returned v0_ ∧ Kd.R k33 33 w' w.heap.size (fun _ => True) v0_ ([] : List S33) ∧ Below w.heap.size w w' := by
 have hu48 := Tryz.underlying28
 have hn2 : n ≤ 140737488355328 := by omega
 rcases Nat.eq_zero_or_pos n with h0 | h0
 ·
  subst h0; clear hn hn2
  go_enter Tryz.func91, Tryz.ntmps91
  go_wp2; go_ret
  exact ⟨_, rfl, Kd.R_nil _ _ _ _ _, Below.refl _ _⟩
 have HL := Aside0.mk hn; clear hn
 go_enter Tryz.func91, Tryz.ntmps91
 go_wp2_with (first | ((with_reducible refine gate_builtin (b := .append) (xs := #[.tmp 20, .tmp 21]) rfl ?_); at_builtin; refine Kd.R_append_zeros k33 (w0 := w) w.heap.size rfl (.tmp 20) (.tmp 21) 28 3 33 (.agg #[.int .i64 0, .string ⟨#[]⟩, .string ⟨#[]⟩]) 40 rfl Tryz.underlying28 Tryz.underlying3 info33 rfl (by decide) (by omega) (.slice none 0 0) ([] : List S33) z33 (n : Int) (fun _ => True) rfl rfl ?aZ (fun _ _ => trivial) ?aR (by omega) ?aB (Nat.le_refl _) ?aL ?_; (case aZ => exact k33_mkM _ _ _ z33); (case aR => exact Kd.R_nil _ _ _ _ _); (case aB => exact Below.refl _ _); (case aL => have := HL.out; simp only [List.length_nil]; omega); intro v1 w1 ho hb hg hat; obtain ⟨g, c, e1, hbg, _⟩ := Kd.R_form ho (by simp; omega); have hnc := (by have := ho; rw [e1] at this; exact (Kd.R_reads' this).2.1 : _); have HO := Aside0.mk ho; have HB := Aside0.mk hb; clear ho hb hg hat hbg; subst e1; simp only [List.nil_append, List.length_replicate] at HO hnc ⊢))
 go_ret
 exact ⟨_, rfl, by have := Kd.R_take HO.out (m := 0) (Nat.zero_le _); simpa using this, HB.out⟩
set_option maxHeartbeats 2000000 in
set_option maxRecDepth 100000 in
theorem slices_Concat_M.calls (b : Nat) (A0 A1 : Option Addr) (c0 c1 : Nat) (l0 l1 : List S33) (w : World) (h0 : w.cell? ⟨b, 0, none⟩ = some (.slice A0 l0.length c0)) (h1 : w.cell? ⟨b, 1, none⟩ = some (.slice A1 l1.length c1)) (hb : b < w.heap.size)
  (hr0 : Kd.C k33 w A0 l0.length l0) (hr1 : Kd.C k33 w A1 l1.length l1) (hn : (l0.length + l1.length) * 40 ≤ 140737488355328) :
  Calls Tryz.prog 62 #[.slice (some ⟨b, 0, none⟩) 2 2] w fun e w' => ∃ v0_ : Value, e = .returned v0_ ∧ Kd.R k33 33 w' w.heap.size (fun _ => True) v0_ (l0 ++ l1) ∧ Below w.heap.size w w' := by
 have hu48 := Tryz.underlying28; have hu80 := Tryz.underlying120
 have hn2 : l0.length + l1.length ≤ 3518437208883 := by omega
 have HL := Aside0.mk hn; have HR0 := Aside0.mk hr0; have HR1 := Aside0.mk hr1; clear hn hr0 hr1
 go_enter Tryz.func62, Tryz.ntmps62
 go_wp2_with fail
 refine wp_loop_rounds 3 ?_
 rw [rounds_succ]
 go_wp2_with fail
 rw [rounds_succ]
 go_wp2_with fail
 rw [rounds_succ]
 go_wp2_with fail
 refine (slices_Grow_M.calls (l0.length + l1.length) _ HL.out).mono ?_
 rintro e w1 ⟨v0, rfl, ho, hB⟩
 have HN := Aside0.mk hn2; have g0 := (hB.cell (p := ⟨b, 0, none⟩) hb).trans h0; have g1 := (hB.cell (p := ⟨b, 1, none⟩) hb).trans h1; have HO := Aside0.mk ho; have HB := Aside0.mk hB; have H0 := Aside0.mk h0; have H1 := Aside0.mk h1; have HLT := Aside0.mk hb; clear ho hB h0 h1 hb hn2
 go_wp2_with fail
 refine wp_loop_rounds 3 ?_
 rw [rounds_succ]
 go_wp2_with (first | ((with_reducible refine gate_builtin (b := .append) (xs := #[.tmp 31, .tmp 32]) rfl ?_); at_builtin; refine Kd.R_append_rows k33 (w0 := w) w.heap.size rfl (.tmp 31) (.tmp 32) 28 33 (.agg #[.int .i64 0, .string ⟨#[]⟩, .string ⟨#[]⟩]) 40 rfl Tryz.underlying28 info33 rfl (by decide) (by omega) v0 ([] : List S33) l0 A0 l0.length c0 (fun _ => True) (fun _ => False) rfl rfl HO.out (Kd.C_below HR0.out HB.out) (fun _ _ h => h) (fun _ h => h.elim) (fun _ _ => trivial) HB.out HB.out.size ?aL ?_; (case aL => have := HL.out; have := HN.out; simp only [List.length_nil, List.length_append]; omega); intro v1 w2 ho hb2 hg hat; apply StopAt2.out))
 apply StopAt2.mk
 clear g0 g1; have g0 := (hb2.cell (p := ⟨b, 0, none⟩) HLT.out).trans H0.out; have g1 := (hb2.cell (p := ⟨b, 1, none⟩) HLT.out).trans H1.out; have HO2 := Aside0.mk ho; have HB2 := Aside0.mk hb2; clear ho hb2 hg hat
 go_wp2_with fail
 rw [rounds_succ]
 go_wp2_with (first | ((with_reducible refine gate_builtin (b := .append) (xs := #[.tmp 31, .tmp 32]) rfl ?_); at_builtin; refine Kd.R_append_rows k33 (w0 := w) w.heap.size rfl (.tmp 31) (.tmp 32) 28 33 (.agg #[.int .i64 0, .string ⟨#[]⟩, .string ⟨#[]⟩]) 40 rfl Tryz.underlying28 info33 rfl (by decide) (by omega) v1 ([] ++ l0) l1 A1 l1.length c1 (fun _ => True) (fun _ => False) rfl rfl HO2.out (Kd.C_below HR1.out HB2.out) (fun _ _ h => h) (fun _ h => h.elim) (fun _ _ => trivial) HB2.out HB2.out.size ?aL ?_; (case aL => have := HL.out; have := HN.out; simp only [List.length_nil, List.length_append]; omega); intro v2 w3 ho hb2 hg hat; apply StopAt2.out))
 apply StopAt2.mk
 have HO3 := Aside0.mk ho; have HB3 := Aside0.mk hb2; clear ho hb2 hg hat g0 g1
 go_wp2_with fail
 rw [rounds_succ]
 go_wp2_with fail
 go_ret
 exact ⟨_, rfl, HO3.out, HB3.out⟩
end Go.Proofs.YtkedidjjhhjdbaaGreatDoor.Pr
end
section
namespace Go.Proofs.YtkedidjjhhjdbaaGreatDoor.Pr
open Go.RowKit Go.Proofs.YtkedidjjhhjdbaaGreatDoorW.PrintWords Go.Proofs.YtkedidjjhhjdbaaGreatDoorW.PrintLast Go.Proofs.YtkedidjjhhjdbaaGreatDoorW.PrintMore
attribute [local go_sem] max2_int min2_int max_two min_two max_three min_three max_four min_four strGtr strLeq strGeq
set_option linter.unusedVariables false
set_option linter.unusedSimpArgs false
theorem eqA33 (d : Nat) (w : World) (x0 y0 : Int) (x1 y1 : ByteArray) (x2 y2 : ByteArray) :
  (Op.equalIn (d + 2) 33 (.agg #[.int .i64 x0, .string x1, .string x2]) (.agg #[.int .i64 y0, .string y1, .string y2])).run Tryz.prog w = .ok (x0 == y0 && (x1.toList == y1.toList && (x2.toList == y2.toList))) w := by
 refine eqA_of Tryz.underlying33 (by kernel_rfl) ?_
 refine eqf_cons (by rfl) (by go_simp; rfl) (by go_simp; rfl) (by go_simp) ?_
 refine eqf_cons (by rfl) (by go_simp; rfl) (by go_simp; rfl) (by go_simp) ?_
 exact eqf_last (by rfl) (by go_simp; rfl) (by go_simp; rfl) (by go_simp)
end Go.Proofs.YtkedidjjhhjdbaaGreatDoor.Pr
end
section
set_option linter.unusedVariables false
set_option linter.unusedSimpArgs false
namespace Go.Proofs.YtkedidjjhhjdbaaGreatDoor.Pr
open Go.RowKit Go.Proofs.YtkedidjjhhjdbaaGreatDoorW.PrintWords Go.Proofs.YtkedidjjhhjdbaaGreatDoorW.PrintLast Go.Proofs.YtkedidjjhhjdbaaGreatDoorW.PrintMore
open Go.Sort (flatK HoldsK putRowK ahead grow)
theorem sw_heap_ne {α : Type} [Inhabited α] (enc : α → List Value) (k : Nat) (w : World) (g n : Nat) (d : Array α) (os : Array Obj) (i : Nat) (hi : i < w.heap.size) (hne : i ≠ g) : (sortWorldK enc k w g 0 n d os).heap[i]? = w.heap[i]? := by
 unfold sortWorldK Sort.grow Sort.putRowK Sort.putRow Sort.mapBlock Sort.ahead
 simp only
 rw [Array.getElem?_append_left (by simpa using hi), Array.getElem?_modify, if_neg (Ne.symm hne)]
theorem sw_heap_eq {α : Type} [Inhabited α] (enc : α → List Value) (k : Nat) (w : World) (g n : Nat) (d : Array α) (os : Array Obj) {cur : Array Value} {e : TypeId} (hg : w.heap[g]? = some (.cells cur e (0, 0))) :
  (sortWorldK enc k w g 0 n d os).heap[g]? = some (.cells (Sort.putCells id 0 (flatK enc k d) cur) e (0, 0)) := by
 have hlt : g < w.heap.size := (Array.getElem?_eq_some_iff.1 hg).1
 unfold sortWorldK Sort.grow Sort.putRowK Sort.putRow Sort.mapBlock Sort.ahead
 simp only
 rw [Array.getElem?_append_left (by simpa using hlt), Array.getElem?_modify, if_pos rfl, hg]; rfl
theorem sw_size {α : Type} [Inhabited α] (enc : α → List Value) (k : Nat) (w : World) (g n : Nat) (d : Array α) (os : Array Obj) : w.heap.size ≤ (sortWorldK enc k w g 0 n d os).heap.size := by
 unfold sortWorldK Sort.grow Sort.putRowK Sort.putRow Sort.mapBlock Sort.ahead
 simp
theorem sw_below {α : Type} [Inhabited α] (enc : α → List Value) (k : Nat) (w0 w : World) (g n : Nat) (d : Array α) (os : Array Obj) (hB : Below w0.heap.size w0 w) (hg : w0.heap.size ≤ g) : Below w0.heap.size w0 (sortWorldK enc k w g 0 n d os) :=
 hB.trans ⟨rfl, rfl, rfl, sw_size enc k w g n d os, fun i hi => sw_heap_ne enc k w g n d os i (Nat.lt_of_lt_of_le hi hB.size) (by omega)⟩
theorem putCells_take (F cur : Array Value) (hs : F.size ≤ cur.size) : (Sort.putCells id 0 F cur).toList.take F.size = F.toList := by
 apply List.ext_getElem?
 intro i; rw [List.getElem?_take]; by_cases hi : i < F.size; rotate_left
 · rw [if_neg hi, List.getElem?_eq_none (by simp; omega)]
 rw [if_pos hi]
 have hc : i < cur.size := by omega
 simp only [Sort.putCells, Array.getElem?_toList, Array.getElem?_mapIdx, Array.getElem?_eq_getElem hc, Option.map_some, Nat.zero_le, Nat.zero_add, hi, and_self, if_true, Nat.sub_zero, id]; rw [getElem!_pos F i hi, Array.getElem?_eq_getElem hi]
section
variable {α : Type} [Inhabited α] {d : Kd α} {enc : α → List Value}
theorem Flat.holds (F : Flat d enc) {e : Nat} {w : World} {base : Nat} {ok : Nat → Prop} {v : Value} {xs : List α} (h : d.R e w base ok v xs) (hp : 0 < xs.length) :
  ∃ g cap, v = .slice (some ⟨g, 0, none⟩) xs.length cap ∧ base ≤ g ∧ g < w.heap.size ∧ ok g ∧ HoldsK enc d.sz w g 0 xs.toArray := by
 obtain ⟨hok, ho⟩ := F.R h
 rcases ho.2 with ⟨_, h0⟩ | ⟨g, cap, cur, rfl, hb, hg, hn, hc, hs, ht⟩
 · omega
 refine ⟨g, cap, rfl, hb, (Array.getElem?_eq_some_iff.1 hg).1, hok g rfl, fun j hj => ?_⟩
 have hj' : j < xs.length * d.sz := by simpa using hj
 have hcur : j < cur.size := by
  rw [hs]
  exact Nat.lt_of_lt_of_le hj' (Nat.mul_le_mul_right _ hn)
 have hF : (flatK enc d.sz xs.toArray)[j]! = cur[j] := by
  rw [getElem!_pos _ j hj, ← Array.getElem_toList]
  have e1 : (flatK enc d.sz xs.toArray).toList[j]? = some cur[j] := by
   rw [flatK_eq enc d.sz F.len, ← ht, List.getElem?_take, if_pos hj']
   simp [hcur]
  rw [List.getElem?_eq_getElem (by simpa using hj)] at e1; exact Option.some.inj e1
 rw [hF, Nat.zero_add]
 refine ⟨?_, ?_⟩
 rotate_left
 · simp [World.frozen?, hg]
 simp [World.cell?, hg, hcur]
theorem Flat.sorted (F : Flat d enc) {e : Nat} {w : World} {base : Nat} {ok : Nat → Prop} {g cap n : Nat} {xs : List α} (h : d.R e w base ok (.slice (some ⟨g, 0, none⟩) xs.length cap) xs) (d' : Array α) (hs : d'.size = xs.length) (os : Array Obj) :
  d.R e (sortWorldK enc d.sz w g 0 n d' os) base ok (.slice (some ⟨g, 0, none⟩) xs.length cap) d'.toList := by
 obtain ⟨hok, ho⟩ := F.R h
 rcases ho.2 with ⟨hx, h0⟩ | ⟨g', cap', cur, hv, hb, hg, hn, hc, hcs, ht⟩
 · cases hx
 injection hv with h1 h2 h3
 injection h1 with h1
 injection h1 with h1
 subst h1; subst h3
 have hl : d'.toList.length = xs.length := by simpa using hs
 have hm : xs.length * d.sz ≤ cap * d.sz := Nat.mul_le_mul_right _ hn
 refine F.R' hok ?_
 rw [hl]
 refine ⟨by rw [flat_len d.sz F.len, hl], .inr ⟨g, cap, _, rfl, hb, sw_heap_eq enc d.sz w g n d' os hg, hn, hc, by simp [Sort.putCells, hcs], ?_⟩⟩
 have hfs : (flatK enc d.sz d').size = xs.length * d.sz := by simp [hs]
 rw [← hfs, putCells_take _ _ (by rw [hfs, hcs]; exact hm)]
 have := flatK_eq enc d.sz F.len d'.toList
 simpa using this
end
theorem cmp_refl : ∀ a : List UInt8, Lib.compareBytes a a = 0
 | [] => rfl
 | a :: x => by simp [Lib.compareBytes, cmp_refl x]
theorem cmp_lt : ∀ a b : List UInt8, decide (Lib.compareBytes a b < 0) = Op.bytesLess a b
 | [], [] => rfl
 | [], _ :: _ => rfl
 | _ :: _, [] => rfl
 | a :: x, b :: y => by
  unfold Lib.compareBytes Op.bytesLess
  by_cases h1 : a < b
  · simp [h1]
  by_cases h2 : b < a
  ·
   have : ¬ a = b := by rintro rfl; exact h1 h2
   simp [h1, h2, this]
  have : a = b := UInt8.toNat_inj.1 (by
   have h1' : ¬ a.toNat < b.toNat := h1
   have h2' : ¬ b.toNat < a.toNat := h2
   omega)
  subst this; simp only [h1, if_false]; rw [cmp_lt x y]
  simp
theorem less_trans : ∀ a b c : List UInt8, Op.bytesLess a b = true → Op.bytesLess b c = true → Op.bytesLess a c = true
 | _, [], _, h, _ => by cases ‹List UInt8› <;> simp [Op.bytesLess] at h
 | _, _ :: _, [], _, h => by simp [Op.bytesLess] at h
 | [], _ :: _, _ :: _, _, _ => rfl
 | a :: x, b :: y, c :: z, h1, h2 => by
  simp only [Op.bytesLess, Bool.or_eq_true, decide_eq_true_eq, Bool.and_eq_true, beq_iff_eq] at *
  rcases h1 with h1 | ⟨rfl, h1⟩
  rotate_left
  ·
   rcases h2 with h2 | ⟨rfl, h2⟩
   · exact .inl h2
   exact .inr ⟨rfl, less_trans x y z h1 h2⟩
  rcases h2 with h2 | ⟨rfl, h2⟩
  rotate_left
  · exact .inl h1
  left
  have h1' : a.toNat < b.toNat := h1
  have h2' : b.toNat < c.toNat := h2
  show a.toNat < c.toNat
  omega
theorem less_ntrans (a b c : List UInt8) (h1 : Op.bytesLess a b = false) (h2 : Op.bytesLess b c = false) : Op.bytesLess a c = false := by
 have e1 := bytesLess_total a b; have e2 := bytesLess_total b c; rw [h1] at e1; rw [h2] at e2
 rcases Bool.eq_false_or_eq_true (Op.bytesLess a c) with h | h
 rotate_left
 · exact h
 exfalso
 by_cases hab : a = b
 · subst hab; rw [h] at h2; cases h2
 by_cases hbc : b = c
 · subst hbc; rw [h] at h1; cases h1
 have hba : Op.bytesLess b a = true := by rw [← e1]; simp [hab]
 have hcb : Op.bytesLess c b = true := by rw [← e2]; simp [hbc]
 have := less_trans c b a hcb hba
 have := less_trans a c a h this
 rw [bytesLess_irrefl] at this; cases this
end Go.Proofs.YtkedidjjhhjdbaaGreatDoor.Pr
end
section
set_option linter.unusedVariables false
set_option linter.unusedSimpArgs false
namespace Go.Proofs.YtkedidjjhhjdbaaGreatDoor.Pr
open Go.RowKit Go.Proofs.YtkedidjjhhjdbaaGreatDoorW.PrintWords Go.Proofs.YtkedidjjhhjdbaaGreatDoorW.PrintLast Go.Proofs.YtkedidjjhhjdbaaGreatDoorW.PrintMore
attribute [local go_sem high] eqA33
def cmpMat (x y : S33) : Int := if x.f1.data.toList = y.f1.data.toList then (if x.f0 = y.f0 then Lib.compareBytes x.f2.data.toList y.f2.data.toList else if x.f0 < y.f0 then -1 else 1) else Lib.compareBytes x.f1.data.toList y.f1.data.toList
theorem toList_data54 (a : ByteArray) : a.toList = a.data.toList := by rw [ByteArray.toList_eq]
set_option maxHeartbeats 4000000 in
set_option maxRecDepth 100000 in
theorem attr_order.walk (a0 : Int) (a1 a2 : ByteArray) (b0 : Int) (b1 b2 : ByteArray) (w : World) :
  Calls Tryz.prog 65 #[.agg #[.int .i64 a0, .string a1, .string a2], .agg #[.int .i64 b0, .string b1, .string b2]] w fun e w' => e = .returned (.int .i64 (cmpMat ⟨a0, a1, a2⟩ ⟨b0, b1, b2⟩)) ∧ ∃ q os', w' = Sort.grow (w.drewN q) os' := by
 have hu54 := Tryz.underlying33
 unfold cmpMat
 simp only
 have hcon := fun (a b : ByteArray) W' => Tryz.strings_Compare a b W'
 by_cases h0 : a1.data.toList = b1.data.toList; rotate_left
 ·
  rw [if_neg h0]
  have k0 : (a1.toList == b1.toList) = false := by rw [toList_data54, toList_data54]; exact beq_eq_false_iff_ne.mpr h0
  have k0' : (a1.toList != b1.toList) = true := by rw [toList_data54, toList_data54]; exact bne_iff_ne.mpr h0
  have hc := hcon a1 b1
  generalize Lib.compareBytes a1.data.toList b1.data.toList = r at hc ⊢
  clear h0 hcon
  go_enter Tryz.func65, Tryz.ntmps65
  go_wp2_with (go_at_call 96; refine (hc _).mono ?_; rintro e w' ⟨rfl, rfl⟩)
  go_ret
  exact ⟨rfl, 0, _, by rw [Sort.alloc_eq_grow, Sort.alloc_eq_grow, Sort.grow_grow]; rfl⟩
 rw [if_pos h0]
 have k0 : (a1.toList == b1.toList) = true := by rw [toList_data54, toList_data54]; exact beq_iff_eq.mpr h0
 have k0' : (a1.toList != b1.toList) = false := by rw [toList_data54, toList_data54]; exact bne_eq_false_iff_eq.mpr h0
 by_cases h1 : a0 = b0; rotate_left
 ·
  rw [if_neg h1]
  have k1 : (a0 == b0) = false := beq_eq_false_iff_ne.mpr h1
  have k1' : (a0 != b0) = true := bne_iff_ne.mpr h1
  by_cases h2 : a0 < b0
  ·
   rw [if_pos h2]
   have k2 : decide (a0 < b0) = true := decide_eq_true h2
   clear h0 h1 h2 hcon
   go_enter Tryz.func65, Tryz.ntmps65
   go_wp2; go_ret
   exact ⟨rfl, 0, _, by rw [Sort.alloc_eq_grow, Sort.alloc_eq_grow, Sort.grow_grow]; rfl⟩
  rw [if_neg h2]
  have k2 : decide (a0 < b0) = false := decide_eq_false h2
  clear h0 h1 h2 hcon
  go_enter Tryz.func65, Tryz.ntmps65
  go_wp2; go_ret
  exact ⟨rfl, 0, _, by rw [Sort.alloc_eq_grow, Sort.alloc_eq_grow, Sort.grow_grow]; rfl⟩
 rw [if_pos h1]
 have k1 : (a0 == b0) = true := beq_iff_eq.mpr h1
 have k1' : (a0 != b0) = false := bne_eq_false_iff_eq.mpr h1
 by_cases h2 : a2.data.toList = b2.data.toList
 ·
  have k2 : (a2.toList == b2.toList) = true := by rw [toList_data54, toList_data54]; exact beq_iff_eq.mpr h2
  have hr : Lib.compareBytes a2.data.toList b2.data.toList = 0 := by rw [h2]; exact cmp_refl _
  rw [hr]; clear h0 h1 h2 hr hcon
  go_enter Tryz.func65, Tryz.ntmps65
  go_wp2; go_ret
  exact ⟨rfl, 0, _, by rw [Sort.alloc_eq_grow, Sort.alloc_eq_grow, Sort.grow_grow]; rfl⟩
 have k2 : (a2.toList == b2.toList) = false := by rw [toList_data54, toList_data54]; exact beq_eq_false_iff_ne.mpr h2
 have hc := hcon a2 b2
 generalize Lib.compareBytes a2.data.toList b2.data.toList = r at hc ⊢
 clear h0 h1 h2 hcon
 go_enter Tryz.func65, Tryz.ntmps65
 go_wp2_with (go_at_call 96; refine (hc _).mono ?_; rintro e w' ⟨rfl, rfl⟩)
 go_ret
 exact ⟨rfl, 0, _, by rw [Sort.alloc_eq_grow, Sort.alloc_eq_grow, Sort.grow_grow]; rfl⟩
end Go.Proofs.YtkedidjjhhjdbaaGreatDoor.Pr
end
section
namespace Go.Proofs
open Go.Shelf
def Tryz.laySortM_ren : Go.Shelf.Ren := ⟨fun | 6 => 64 | 15 => 95 | 14 => 94 | 28 => 127 | 29 => 128 | 20 => 119 | 21 => 120 | 22 => 121 | 23 => 122 | 24 => 123 | 25 => 124 | 26 => 125 | 27 => 126 | 46 => 146 | 47 => 147 | 48 => 148 | 49 => 149 | 50 => 150 | 57 => 166 | n => n, fun | 22 => 28 | 24 => 33 | 25 => 100 | 3 => 3 | 39 => 124 | 0 => 0 | 53 => 149 | 55 => 151 | 4 => 4 | 46 => 142 | 45 => 141 | 50 => 146 | 5 => 5 | 9 => 9 | 66 => 168 | 70 => 172 | 76 => 196 | 77 => 197 | n => n, fun | n => n⟩
theorem Tryz.laySortM : Go.Proofs.SlLaysF0.n6 Tryz.prog Tryz.laySortM_ren := {
 mixed := by kernel_rfl
 f6 := ⟨Tryz.f64.name, by decide, Tryz.func64.trans (congrArg some (by kernel_rfl))⟩
 f14 := ⟨Tryz.f94.name, by decide, Tryz.func94.trans (congrArg some (by kernel_rfl))⟩
 f15 := Tryz.func95.trans (congrArg some (by kernel_rfl))
 f20 := ⟨Tryz.f119.name, by decide, Tryz.func119.trans (congrArg some (by kernel_rfl))⟩
 f21 := ⟨Tryz.f120.name, by decide, Tryz.func120.trans (congrArg some (by kernel_rfl))⟩
 f22 := ⟨Tryz.f121.name, by decide, Tryz.func121.trans (congrArg some (by kernel_rfl))⟩
 f23 := ⟨Tryz.f122.name, by decide, Tryz.func122.trans (congrArg some (by kernel_rfl))⟩
 f24 := ⟨Tryz.f123.name, by decide, Tryz.func123.trans (congrArg some (by kernel_rfl))⟩
 f25 := ⟨Tryz.f124.name, by decide, Tryz.func124.trans (congrArg some (by kernel_rfl))⟩
 f26 := ⟨Tryz.f125.name, by decide, Tryz.func125.trans (congrArg some (by kernel_rfl))⟩
 f27 := ⟨Tryz.f126.name, by decide, Tryz.func126.trans (congrArg some (by kernel_rfl))⟩
 f28 := Tryz.func127.trans (congrArg some (by kernel_rfl))
 f29 := Tryz.func128.trans (congrArg some (by kernel_rfl))
 f46 := ⟨Tryz.f146.name, by decide, Tryz.func146.trans (congrArg some (by kernel_rfl))⟩
 f47 := Tryz.func147.trans (congrArg some (by kernel_rfl))
 f48 := Tryz.func148.trans (congrArg some (by kernel_rfl))
 f49 := ⟨Tryz.f149.name, by decide, Tryz.func149.trans (congrArg some (by kernel_rfl))⟩
 f50 := ⟨Tryz.f150.name, by decide, Tryz.func150.trans (congrArg some (by kernel_rfl))⟩
 f57 := ⟨Tryz.f166.name, by decide, Tryz.func166.trans (congrArg some (by kernel_rfl))⟩
 t0 := Tryz.underlying0
 a0 := Tryz.isAgg0
 z0 := Tryz.sizeOf0
 v0 := Tryz.zeroValue0
 t3 := Tryz.underlying3
 a3 := Tryz.isAgg3
 z3 := Tryz.sizeOf3
 v3 := Tryz.zeroValue3
 t4 := Tryz.underlying4
 a4 := Tryz.isAgg4
 z4 := Tryz.sizeOf4
 v4 := Tryz.zeroValue4
 t5 := Tryz.underlying5
 a5 := Tryz.isAgg5
 z5 := Tryz.sizeOf5
 v5 := Tryz.zeroValue5
 t9 := Tryz.underlying9
 a9 := Tryz.isAgg9
 z9 := Tryz.sizeOf9
 v9 := Tryz.zeroValue9
 t22 := Tryz.underlying28
 a22 := Tryz.isAgg28
 z22 := Tryz.sizeOf28
 v22 := Tryz.zeroValue28
 t25 := Tryz.underlying100
 a25 := Tryz.isAgg100
 z25 := Tryz.sizeOf100
 v25 := Tryz.zeroValue100
 t39 := Tryz.underlying124
 a39 := Tryz.isAgg124
 z39 := Tryz.sizeOf124
 v39 := Tryz.zeroValue124
 t45 := Tryz.underlying141
 a45 := Tryz.isAgg141
 z45 := Tryz.sizeOf141
 v45 := Tryz.zeroValue141
 t46 := Tryz.underlying142
 a46 := Tryz.isAgg142
 z46 := Tryz.sizeOf142
 v46 := Tryz.zeroValue142
 t50 := Tryz.underlying146
 a50 := Tryz.isAgg146
 z50 := Tryz.sizeOf146
 v50 := Tryz.zeroValue146
 t53 := Tryz.underlying149
 a53 := Tryz.isAgg149
 z53 := Tryz.sizeOf149
 v53 := Tryz.zeroValue149
 t55 := Tryz.underlying151
 a55 := Tryz.isAgg151
 z55 := Tryz.sizeOf151
 v55 := Tryz.zeroValue151
 t66 := Tryz.underlying168
 a66 := Tryz.isAgg168
 z66 := Tryz.sizeOf168
 v66 := Tryz.zeroValue168
 t70 := Tryz.underlying172
 a70 := Tryz.isAgg172
 z70 := Tryz.sizeOf172
 v70 := Tryz.zeroValue172
 t76 := Tryz.underlying196
 a76 := Tryz.isAgg196
 z76 := Tryz.sizeOf196
 v76 := Tryz.zeroValue196
 t77 := Tryz.underlying197
 a77 := Tryz.isAgg197
 z77 := Tryz.sizeOf197
 v77 := Tryz.zeroValue197 }
end Go.Proofs
end
section
set_option linter.unusedVariables false
set_option linter.unusedSimpArgs false
namespace Go.Proofs.YtkedidjjhhjdbaaGreatDoor.Pr
open Go.RowKit Go.Proofs.YtkedidjjhhjdbaaGreatDoorW.PrintWords Go.Proofs.YtkedidjjhhjdbaaGreatDoorW.PrintLast Go.Proofs.YtkedidjjhhjdbaaGreatDoorW.PrintMore
open Go.Sort (flatK HoldsK putRowK ahead grow)
theorem cmpMat_lt (x y : S33) : ltOf cmpMat x y = true ↔ (Op.bytesLess x.f1.data.toList y.f1.data.toList = true ∨ (x.f1.data.toList = y.f1.data.toList ∧ (x.f0 < y.f0 ∨ (x.f0 = y.f0 ∧ Op.bytesLess x.f2.data.toList y.f2.data.toList = true)))) := by
 unfold ltOf cmpMat
 by_cases h0 : x.f1.data.toList = y.f1.data.toList; rotate_left
 · rw [if_neg h0, cmp_lt]; simp [h0]
 rw [if_pos h0, h0, bytesLess_irrefl]; by_cases h1 : x.f0 = y.f0
 · rw [if_pos h1, cmp_lt]; simp [h1]
 rw [if_neg h1]; by_cases h2 : x.f0 < y.f0
 · rw [if_pos h2]; simp [h2]
 rw [if_neg h2]; simp [h1, h2]
theorem swoMat : Sort.SWO (ltOf cmpMat) where
 irrefl x := by
  rcases hb : ltOf cmpMat x x with _ | _
  · rfl
  rcases (cmpMat_lt x x).1 hb with h | ⟨_, h | ⟨_, h⟩⟩
  · rw [bytesLess_irrefl] at h; cases h
  · omega
  rw [bytesLess_irrefl] at h; cases h
 trans x y z h1 h2 := by
  rw [cmpMat_lt] at *
  rcases h1 with h1 | ⟨e1, h1⟩ <;> rcases h2 with h2 | ⟨e2, h2⟩
  · exact .inl (less_trans _ _ _ h1 h2)
  · rw [← e2]; exact .inl h1
  · rw [e1]; exact .inl h2
  refine .inr ⟨e1.trans e2, ?_⟩
  rcases h1 with h1 | ⟨f1, h1⟩ <;> rcases h2 with h2 | ⟨f2, h2⟩
  · exact .inl (by omega)
  · exact .inl (by omega)
  · exact .inl (by omega)
  exact .inr ⟨f1.trans f2, less_trans _ _ _ h1 h2⟩
 ntrans x y z h1 h2 := by
  rcases hb : ltOf cmpMat x z with _ | _
  · rfl
  exfalso
  have n1 : ¬ _ := fun h => Bool.noConfusion (h1.symm.trans ((cmpMat_lt x y).2 h))
  have n2 : ¬ _ := fun h => Bool.noConfusion (h2.symm.trans ((cmpMat_lt y z).2 h))
  have t1 := bytesLess_total x.f1.data.toList y.f1.data.toList; have t2 := bytesLess_total y.f1.data.toList z.f1.data.toList; have u1 := bytesLess_total x.f2.data.toList y.f2.data.toList; have u2 := bytesLess_total y.f2.data.toList z.f2.data.toList
  have a1 : Op.bytesLess x.f1.data.toList y.f1.data.toList = false := by
   rcases h : Op.bytesLess x.f1.data.toList y.f1.data.toList with _ | _
   · rfl
   exact (n1 (.inl h)).elim
  have a2 : Op.bytesLess y.f1.data.toList z.f1.data.toList = false := by
   rcases h : Op.bytesLess y.f1.data.toList z.f1.data.toList with _ | _
   · rfl
   exact (n2 (.inl h)).elim
  have a3 := less_ntrans _ _ _ a1 a2
  rcases (cmpMat_lt x z).1 hb with h | ⟨e, h⟩
  · rw [h] at a3; cases a3
  have e1 : x.f1.data.toList = y.f1.data.toList := by
   rcases Decidable.em (x.f1.data.toList = y.f1.data.toList) with e1 | e1
   · exact e1
   rw [a1, beq_eq_false_iff_ne.2 e1] at t1; rw [e] at t1; rw [a2] at t2
   have : (y.f1.data.toList == z.f1.data.toList) = false := beq_eq_false_iff_ne.2 (fun e' => e1 (e.trans e'.symm))
   rw [← t1] at a2; cases a2
  have e2 : y.f1.data.toList = z.f1.data.toList := e1.symm.trans e
  have o1 : ¬ x.f0 < y.f0 := fun h => (n1 (.inr ⟨e1, .inl h⟩)).elim
  have o2 : ¬ y.f0 < z.f0 := fun h => (n2 (.inr ⟨e2, .inl h⟩)).elim
  rcases h with h | ⟨eo, h⟩
  · omega
  have p1 : x.f0 = y.f0 := by omega
  have p2 : y.f0 = z.f0 := by omega
  have b1 : Op.bytesLess x.f2.data.toList y.f2.data.toList = false := by
   rcases h' : Op.bytesLess x.f2.data.toList y.f2.data.toList with _ | _
   · rfl
   exact (n1 (.inr ⟨e1, .inr ⟨p1, h'⟩⟩)).elim
  have b2 : Op.bytesLess y.f2.data.toList z.f2.data.toList = false := by
   rcases h' : Op.bytesLess y.f2.data.toList z.f2.data.toList with _ | _
   · rfl
   exact (n2 (.inr ⟨e2, .inr ⟨p2, h'⟩⟩)).elim
  have := less_ntrans _ _ _ b1 b2
  rw [h] at this; cases this
theorem cmpLays50 (blk off size : Nat) (w : World) : CmpLays Tryz.prog 65 #[] enc33 3 cmpMat blk off size w := fun _ _ _ _ x y => attr_order.walk x.f0 x.f1 x.f2 y.f0 y.f1 y.f2 _
def sorted33 (l : List S33) : List S33 := (Sort.pdq (ltOf cmpMat) l.toArray 0 l.toArray.size (Lib.bitLen l.toArray.size) true true).toList
theorem sorted33_perm (l : List S33) : (sorted33 l).Perm l ∧ (sorted33 l).length = l.length ∧ Sort.SortedIn (ltOf cmpMat) 0 l.length (sorted33 l).toArray := by
 have h := Sort.pdq_sorts (ltOf cmpMat) swoMat l.toArray 0 l.toArray.size (Lib.bitLen l.toArray.size) true true (Nat.zero_le _) (Nat.le_refl _) (Or.inl rfl)
 unfold sorted33
 generalize Sort.pdq (ltOf cmpMat) l.toArray 0 l.toArray.size (Lib.bitLen l.toArray.size) true true = X at h
 obtain ⟨⟨h1, _, h3⟩, h4⟩ := h
 have e1 : X.extract 0 l.toArray.size = X := by rw [← h1]; simp
 have e2 : l.toArray.extract 0 l.toArray.size = l.toArray := by simp
 rw [e1, e2] at h3
 exact ⟨by simpa using h3, by simpa using h1, by simpa using h4⟩
theorem sorted33_nil : sorted33 [] = [] := by
 have := (sorted33_perm []).2.1
 exact List.eq_nil_of_length_eq_zero this
set_option maxHeartbeats 1000000 in
theorem slices_SortFunc_M.calls (P0_ : Nat → Prop) (u9000_ : Value) (l0 : List S33) (w0 w : World) (hB : Below w0.heap.size w0 w) (ho0 : Kd.R k33 33 w w0.heap.size P0_ u9000_ l0) (hl : l0.length < 4611686018427387904) :
  Calls Tryz.prog 64 #[u9000_, .func (.func 65) #[] #[]] w fun e w' => e = .returned (.tuple #[]) ∧ Kd.R k33 33 w' w0.heap.size P0_ u9000_ (sorted33 l0) ∧ Below w0.heap.size w0 w' := by
 rcases Nat.eq_zero_or_pos l0.length with h0 | h0
 ·
  have hn := List.eq_nil_of_length_eq_zero h0; subst hn
  obtain ⟨A, c, rfl⟩ := Kd.R_slice ho0
  have hcon := AnyF.slices_SortFunc_none Tryz.laySortM A c (.func (.func 65) #[] #[]) w
  change Calls Tryz.prog 64 _ _ _ at hcon
  refine hcon.mono fun e w' ⟨he, hw⟩ => ?_
  subst hw
  exact ⟨he, by rw [sorted33_nil]; exact ho0, hB⟩
 obtain ⟨g, cap, rfl, hbase, hlt, hok, hH⟩ := flat33.holds ho0 h0
 have eg : ∀ args w, (callFunc 65 args).run Tryz.prog w = .ok (.enter 65 args) w := enters_of Tryz.func65 (by kernel_rfl) rfl
 have hcon := AnyQ.slices_SortFunc_eq Tryz.laySortM 3 Tryz.isAgg33 Tryz.sizeOf33 enc33 (fun _ => rfl) (fun x => flat33.one x) cmpMat swoMat 65 #[] g 0 cap l0.toArray w eg (cmpLays50 g 0 _ w) hH hlt (by simpa using hl)
 change Calls Tryz.prog 64 _ _ _ at hcon
 have hsz : l0.toArray.size = l0.length := by simp
 refine Calls.mono (by rw [hsz] at hcon; exact hcon) ?_
 rintro e w' ⟨he, n, os, rfl⟩
 refine ⟨he, ?_, sw_below _ _ w0 w g n _ os hB hbase⟩
 have hR := flat33.sorted (n := n) ho0 (Sort.pdq (ltOf cmpMat) l0.toArray 0 l0.toArray.size (Lib.bitLen l0.toArray.size) true true) (by have := (sorted33_perm l0).2.1; unfold sorted33 at this; simpa using this) os
 rw [hsz] at hR
 unfold sorted33
 rw [hsz]; exact hR
end Go.Proofs.YtkedidjjhhjdbaaGreatDoor.Pr
end
