import Derived.Test.YtkedidjjhhjdbaaGreatDoorWc0
import Derived.Test.YtkedidjjhhjdbaaGreatDoorWc5
import Derived.Test.YtkedidjjhhjdbaaGreatDoorWc10
import Derived.Test.YtkedidjjhhjdbaaGreatDoorWc6
import Derived.Test.YtkedidjjhhjdbaaGreatDoorWc8
import Derived.Maps.OwnSet
set_option linter.unusedVariables false
set_option linter.unusedSimpArgs false
namespace Go.Proofs.YtkedidjjhhjdbaaGreatDoor.Pr
open Go.RowKit Go.Proofs.YtkedidjjhhjdbaaGreatDoorW.PrintWords Go.Proofs.YtkedidjjhhjdbaaGreatDoorW.PrintLast Go.Proofs.YtkedidjjhhjdbaaGreatDoorW.PrintMore
def keysOf (l : List ByteArray) : List Lit := l.map fun s => .string s.data.toList
def distinctN (l : List ByteArray) : Nat := ((keysOf l).foldl Go.Maps.addKey []).length
def metSet {H : Type} (l : List ByteArray) : DataW H := Go.Maps.setOf (.lit (.bool true)) (keysOf l)
theorem metSet_snoc {H : Type} (l : List ByteArray) (k : Nat) (x : ByteArray) (hx : l[k]? = some x) : metSet (H := H) (l.take (k + 1)) = (metSet (l.take k)).put (.string x.data.toList) (.lit (.bool true)) := by
 unfold metSet keysOf
 rw [List.take_add_one, hx]; simp only [Option.toList_some, List.map_append, List.map_cons, List.map_nil]; rw [Go.Maps.setOf_snoc]
theorem metSet_nil {H : Type} (l : List ByteArray) : metSet (H := H) (l.take 0) = .map [] := by simp [metSet, keysOf, Go.Maps.setOf]
theorem metSet_size {H : Type} (l : List ByteArray) : Go.Maps.size (metSet (H := H) l) = distinctN l := by
 unfold metSet distinctN
 refine Go.Maps.size_setOf _ _ ?_
 intro x hx
 obtain ⟨s, _, rfl⟩ := List.mem_map.1 hx
 simp [WideAt.IsKeyLit]
def policy_Right.bad (tn : ByteArray) : Option Bool := if tn.toList = ([42] : List UInt8) then some false else (policy_name.f tn).bind fun b => some (!b)
def policy_Right.rest (k : Nat) (d : Bool) (l3 : List S33) (l4 : List ByteArray) : Option Int :=
  (attr_RightMatch.f k l3).bind fun why =>
    if why = 0 then
      (if d = true ∧ ((l3.length : Int) > 1 ∨ (l4.length : Int) > 0) then some 110
      else if (l4.length : Int) > 16 then some 7
      else (slices_ContainsFunc_string_string.f k l4).bind fun b =>
        if b = true then some 40
        else if l4.all (fun s => decide (s.size ≤ 9223372036854775807)) = true then (if (distinctN l4 : Int) < (l4.length : Int) then some 6 else some 0) else none)
    else some why
def policy_Right.f (k : Nat) (d : Bool) (kd : Int) (tn : ByteArray) (l3 : List S33) (l4 : List ByteArray) : Option Int :=
  (policy_Kind.f kd).bind fun t => if t.toList = ([] : List UInt8) then some 1 else (policy_Right.bad tn).bind fun bad => if bad = true then some 100 else policy_Right.rest k d l3 l4
structure RtI (w : World) (cs : Array Value) (W : World) : Prop where
  bk : W.heap[w.heap.size]? = some (.cells cs 46 (0, 0))
  be : Below w.heap.size w W
theorem RtI.below {w W W' : World} {cs : Array Value} (h : RtI w cs W) (hb : Below W.heap.size W W') : RtI w cs W' := ⟨blk_below h.bk hb, h.be.trans (hb.mono h.be.size)⟩
theorem RtI.drewN {w W : World} {cs : Array Value} (h : RtI w cs W) (n : Nat) : RtI w cs (W.drewN n) := ⟨h.bk, pw_below_drewN h.be n⟩
theorem RtI.cell {w W : World} {cs : Array Value} (h : RtI w cs W) (i : Nat) (v : Value) (hv : cs[i]? = some v) : W.cell? ⟨w.heap.size, i, none⟩ = some v := (blk_cell h.bk i).trans hv
theorem RtI.grown {w W W' : World} {cs : Array Value} {b : Nat} (h : RtI w cs W) (hg : W.grownBy W' (some b)) (hb : w.heap.size < b) : RtI w cs W' :=
 ⟨blk_grown h.bk hg (by simp; omega), h.be.grown hg h.be.size (fun j hj => by cases hj; omega)⟩
theorem law9 : Go.Maps.Keyed Tryz.prog 9 := Go.Maps.string_keyed Tryz.underlying9
set_option maxHeartbeats 8000000 in
set_option maxRecDepth 100000 in
theorem policy_Right.calls (k : Nat) (d : Bool) (kd : Int) (tn : ByteArray) (A3 : Option Addr) (c3 : Nat) (l3 : List S33) (A4 : Option Addr) (c4 : Nat) (l4 : List ByteArray) (r : Int) (w : World)
  (hr3 : Kd.C k33 w A3 l3.length l3) (hc3 : l3.length ≤ c3) (hr4 : Kd.C Kd.string w A4 l4.length l4) (hc4 : l4.length ≤ c4) (h : policy_Right.f k d kd tn l3 l4 = some r)
  (he_ : EnvW w := by repeat (first | with_reducible assumption | with_reducible exact env_of (by with_reducible assumption) (by with_reducible assumption) | with_reducible exact env_out (by with_reducible assumption) | with_reducible apply env_alloc | with_reducible apply env_drewN | with_reducible apply env_drew | with_reducible refine env_set ?_ (by with_reducible assumption) (by with_reducible assumption))) :
  Calls Tryz.prog 22 #[.agg #[.bool d, .int .i64 kd, .string tn, .slice A3 l3.length c3, .slice A4 l4.length c4]] w fun e w' => e = .returned (.int .i64 r) ∧ Below w.heap.size w w' := by
 unfold policy_Right.f at h
 obtain ⟨t, ht, h⟩ := Option.bind_eq_some_iff.mp h
 have hmm := @run_makeMap Tryz.prog; have HR3 := Aside0.mk hr3; have HR4 := Aside0.mk hr4; have HE := Aside0.mk he_; have HT := Aside0.mk ht; have HH := Aside0.mk h; clear hr3 hr4 he_ ht h
 go_enter Tryz.func22, Tryz.ntmps22
 go_wp2_with fail
 have HI : Aside0 (RtI w #[.bool d, .int .i64 kd, .string tn, .slice A3 l3.length c3, .slice A4 l4.length c4] (w.alloc (.cells #[.bool d, .int .i64 kd, .string tn, .slice A3 l3.length c3, .slice A4 l4.length c4] 46))) := ⟨⟨blk_new _ _, (Below.refl _ _).alloc (Nat.le_refl _) _⟩⟩
 generalize w.alloc (.cells #[.bool d, .int .i64 kd, .string tn, .slice A3 l3.length c3, .slice A4 l4.length c4] 46) = W0 at HI ⊢
 refine (policy_Kind.calls kd t _ HT.out).mono ?_
 rintro e w1 ⟨rfl, ⟨nd, rfl⟩⟩
 replace HI := Aside0.mk (HI.out.drewN nd)
 generalize W0.drewN nd = W1 at HI ⊢
 clear HT; by_cases c1 : t.toList = ([] : List UInt8)
 ·
  have h := HH.out; rw [if_pos c1] at h
  obtain rfl := Option.some.inj h
  have c1b0 : (t.toList == ([] : List UInt8)) = true := beq_iff_eq.mpr c1
  clear c1 h HH; go_wp2; go_ret
  exact ⟨rfl, HI.out.be⟩
 have h := HH.out; rw [if_neg c1] at h
 have c1b0 : (t.toList == ([] : List UInt8)) = false := beq_eq_false_iff_ne.mpr c1
 obtain ⟨bad, hb, h⟩ := Option.bind_eq_some_iff.mp h
 have HB := Aside0.mk hb; have HH := Aside0.mk h; clear c1 h hb; have hx2 := HI.out.cell 2 (.string tn) rfl
 go_upto_region 3 with (fail)
 go_cut [12] (fun v12 wc => v12 = .bool bad ∧ Aside0 (RtI w #[.bool d, .int .i64 kd, .string tn, .slice A3 l3.length c3, .slice A4 l4.length c4] wc))
 case first =>
  have hb := HB.out
  unfold policy_Right.bad at hb
  by_cases c2 : tn.toList = ([42] : List UInt8)
  ·
   rw [if_pos c2] at hb
   obtain rfl := Option.some.inj hb
   have c2b0 : (tn.toList == ([42] : List UInt8)) = true := beq_iff_eq.mpr c2
   have c2b1 : (tn.toList != ([42] : List UInt8)) = false := bne_eq_false_iff_eq.mpr c2
   clear c2 hb; go_wp2
   go_meet
   case rel => exact ⟨rfl, HI⟩
  rw [if_neg c2] at hb
  obtain ⟨b, hb1, hb2⟩ := Option.bind_eq_some_iff.mp hb
  obtain rfl := Option.some.inj hb2
  have c2b0 : (tn.toList == ([42] : List UInt8)) = false := beq_eq_false_iff_ne.mpr c2
  have c2b1 : (tn.toList != ([42] : List UInt8)) = true := bne_iff_ne.mpr c2
  have HB1 := Aside0.mk hb1; clear c2 hb hb1 hb2
  go_wp2_with fail
  refine (policy_name.calls tn b _ HB1.out).mono ?_
  rintro e w2 ⟨rfl, hbl⟩
  have HI2 := Aside0.mk (HI.out.below hbl); clear hbl HI hx2; go_wp2
  go_meet
  case rel => exact ⟨rfl, HI2⟩
 clear HI hx2 HB
 obtain ⟨rfl, HI⟩ := hcut
 have h := HH.out; clear HH; by_cases c3 : bad = true
 ·
  subst c3; rw [if_pos rfl] at h
  obtain rfl := Option.some.inj h
  clear h; go_wp2; go_ret
  exact ⟨rfl, HI.out.be⟩
 rw [if_neg c3] at h
 obtain rfl : bad = false := Bool.eq_false_iff.mpr c3
 clear c3
 unfold policy_Right.rest at h
 obtain ⟨why, hw, h⟩ := Option.bind_eq_some_iff.mp h
 have HW := Aside0.mk hw; have HH := Aside0.mk h; clear hw h; have hx3 := HI.out.cell 3 (.slice A3 l3.length c3) rfl
 go_wp2_with fail
 refine (attr_RightMatch.calls k A3 c3 l3 why _ (Kd.C_below HR3.out HI.out.be) hc3 HW.out (env_below HE.out HI.out.be)).mono ?_
 rintro e w3 ⟨rfl, hbl⟩
 have HI3 := Aside0.mk (HI.out.below hbl); clear hbl HI hx3 HW; have h := HH.out; clear HH; by_cases c4 : why = 0; rotate_left
 ·
  rw [if_neg c4] at h
  obtain rfl := Option.some.inj h
  have c4b0 : (why != 0) = true := bne_iff_ne.mpr c4
  clear h c4; go_wp2; go_ret
  exact ⟨rfl, HI3.out.be⟩
 subst c4; rw [if_pos rfl] at h; have HH := Aside0.mk h; clear h; have hx0 := HI3.out.cell 0 (.bool d) rfl; have hx3 := HI3.out.cell 3 (.slice A3 l3.length c3) rfl; have hx4 := HI3.out.cell 4 (.slice A4 l4.length c4) rfl
 go_upto_region 8 with (fail)
 go_cut [28] (fun v28 wc => v28 = .bool (decide (d = true ∧ ((l3.length : Int) > 1 ∨ (l4.length : Int) > 0))) ∧ Aside0 (RtI w #[.bool d, .int .i64 kd, .string tn, .slice A3 l3.length c3, .slice A4 l4.length c4] wc))
 case first =>
  clear HH; by_cases d1 : d = true; rotate_left
  ·
   obtain rfl : d = false := Bool.eq_false_iff.mpr d1
   have E3 : Aside0 (decide (false = true ∧ ((l3.length : Int) > 1 ∨ (l4.length : Int) > 0)) = false) := ⟨decide_eq_false (fun hh => by simp at hh)⟩
   clear d1; go_wp2
   go_meet
   case rel => exact ⟨by rw [E3.out], HI3⟩
  subst d1; by_cases d2 : (l3.length : Int) > 1
  ·
   have e1 : decide (1 < (l3.length : Int)) = true := decide_eq_true d2
   have e2 : decide (1 < l3.length) = true := decide_eq_true (by omega)
   have E3 : Aside0 (decide (true = true ∧ ((l3.length : Int) > 1 ∨ (l4.length : Int) > 0)) = true) := ⟨decide_eq_true ⟨rfl, .inl d2⟩⟩
   clear d2; go_wp2
   go_meet
   case rel => exact ⟨by rw [E3.out], HI3⟩
  have e1 : decide (1 < (l3.length : Int)) = false := decide_eq_false d2
  have e2 : decide (1 < l3.length) = false := decide_eq_false (by omega)
  by_cases d3 : (l4.length : Int) > 0
  ·
   have e4 : decide (0 < (l4.length : Int)) = true := decide_eq_true d3
   have e5 : decide (0 < l4.length) = true := decide_eq_true (by omega)
   have E3 : Aside0 (decide (true = true ∧ ((l3.length : Int) > 1 ∨ (l4.length : Int) > 0)) = true) := ⟨decide_eq_true ⟨rfl, .inr d3⟩⟩
   clear d2 d3; go_wp2
   go_meet
   case rel => exact ⟨by rw [E3.out], HI3⟩
  have e4 : decide (0 < (l4.length : Int)) = false := decide_eq_false d3
  have e5 : decide (0 < l4.length) = false := decide_eq_false (by omega)
  have E3 : Aside0 (decide (true = true ∧ ((l3.length : Int) > 1 ∨ (l4.length : Int) > 0)) = false) := ⟨decide_eq_false (fun hh => hh.2.elim d2 d3)⟩
  clear d2 d3; go_wp2
  go_meet
  case rel => exact ⟨by rw [E3.out], HI3⟩
 clear HI3 hx0 hx3 hx4
 obtain ⟨rfl, HI⟩ := hcut
 have h := HH.out; clear HH; by_cases c5 : d = true ∧ ((l3.length : Int) > 1 ∨ (l4.length : Int) > 0)
 ·
  rw [if_pos c5] at h
  obtain rfl := Option.some.inj h
  rw [decide_eq_true c5]; clear h c5; go_wp2; go_ret
  exact ⟨rfl, HI.out.be⟩
 rw [if_neg c5] at h; rw [decide_eq_false c5]; clear c5; have hx4 := HI.out.cell 4 (.slice A4 l4.length c4) rfl; by_cases c6 : (l4.length : Int) > 16
 ·
  rw [if_pos c6] at h
  obtain rfl := Option.some.inj h
  have e1 : decide (16 < (l4.length : Int)) = true := decide_eq_true c6
  have e2 : decide (16 < l4.length) = true := decide_eq_true (by omega)
  clear h c6; go_wp2; go_ret
  exact ⟨rfl, HI.out.be⟩
 rw [if_neg c6] at h
 have e1 : decide (16 < (l4.length : Int)) = false := decide_eq_false c6
 have e2 : decide (16 < l4.length) = false := decide_eq_false (by omega)
 have hl4 : l4.length ≤ 16 := by omega
 clear c6
 obtain ⟨b, hb, h⟩ := Option.bind_eq_some_iff.mp h
 have HB := Aside0.mk hb; have HH := Aside0.mk h; clear hb h
 go_wp2_with fail
 refine (slices_ContainsFunc_string_string.calls k A4 c4 l4 b _ (Kd.C_below HR4.out HI.out.be) hc4 HB.out).mono ?_
 rintro e w4 ⟨rfl, ⟨nd4, rfl⟩⟩
 replace HI := Aside0.mk (HI.out.drewN nd4)
 clear HB hx4; have hx4 := HI.out.cell 4 (.slice A4 l4.length c4) rfl; have h := HH.out; clear HH; by_cases c7 : b = true
 ·
  subst c7; rw [if_pos rfl] at h
  obtain rfl := Option.some.inj h
  clear h; go_wp2; go_ret
  exact ⟨rfl, HI.out.be⟩
 rw [if_neg c7] at h
 obtain rfl : b = false := Bool.eq_false_iff.mpr c7
 clear c7
 by_cases c8 : l4.all (fun s => decide (s.size ≤ 9223372036854775807)) = true
 rotate_left
 · rw [if_neg c8] at h; cases h
 rw [if_pos c8] at h; have HH := Aside0.mk h; have HS := Aside0.mk c8; clear h c8
 go_upto_region 14 with (fail)
 clear hx4
 generalize wc.drewN nd4 = W5 at HI ⊢
 have hx4 : (W5.alloc (.map #[] 0)).cell? ⟨w.heap.size, 4, none⟩ = some (.slice A4 l4.length c4) := (HI.out.below ((Below.refl _ _).alloc (Nat.le_refl _) _)).cell 4 (.slice A4 l4.length c4) rfl
 have hM : w.heap.size < W5.heap.size := blk_lt HI.out.bk
 go_wp2
 go_loopw [56] (fun i wr => ∃ j : Nat, j ≤ l4.length ∧ i = .int .i64 j ∧ Aside0 (wr.ownsMap Tryz.prog 9 (plainElem (H := Unit) Tryz.prog 4) W5.heap.size j (metSet (l4.take j))) ∧ Aside0 (RtI w #[.bool d, .int .i64 kd, .string tn, .slice A3 l3.length c3, .slice A4 l4.length c4] wr)) (fun i _ => l4.length - (intOf i).toNat)
 case atStart => exact ⟨0, Nat.zero_le _, rfl, ⟨by rw [metSet_nil]; exact World.ownsMap_made _ _ _ _⟩, ⟨HI.out.below ((Below.refl _ _).alloc (Nat.le_refl _) _)⟩⟩
 case round =>
  clear HI hx4
  obtain ⟨j, hj, rfl, HO, HI⟩ := hrel
  by_cases hlt : j < l4.length; rotate_left
  ·
   obtain rfl : j = l4.length := by omega
   have c9b0 : decide ((l4.length : Int) < (l4.length : Int)) = false := decide_eq_false (by omega)
   have c9b1 : decide (l4.length < l4.length) = false := decide_eq_false hlt
   have hx4 := HI.out.cell 4 (.slice A4 l4.length c4) rfl
   have hsz : Go.Maps.size (metSet (H := Unit) (l4.take l4.length)) = distinctN l4 := by rw [List.take_length, metSet_size]
   have h := HH.out; clear HH; by_cases c10 : (distinctN l4 : Int) < (l4.length : Int)
   ·
    rw [if_pos c10] at h
    obtain rfl := Option.some.inj h
    have c10b0 : decide ((distinctN l4 : Int) < (l4.length : Int)) = true := decide_eq_true c10
    have c10b1 : decide (distinctN l4 < l4.length) = true := decide_eq_true (by omega)
    clear h c10 hlt
    go_wp2_with (first
     | (at_len; refine wpList_len_own _ rfl _ 91 rfl 9 4 Tryz.underlying91 _ W5.heap.size _ _ rfl HO.out ?_; rw [hsz])
     | go_in)
    go_ret
    exact ⟨rfl, HI.out.be⟩
   rw [if_neg c10] at h
   obtain rfl := Option.some.inj h
   have c10b0 : decide ((distinctN l4 : Int) < (l4.length : Int)) = false := decide_eq_false c10
   have c10b1 : decide (distinctN l4 < l4.length) = false := decide_eq_false (by omega)
   clear h c10 hlt
   go_wp2_with (first
    | (at_len; refine wpList_len_own _ rfl _ 91 rfl 9 4 Tryz.underlying91 _ W5.heap.size _ _ rfl HO.out ?_; rw [hsz])
    | go_in)
   go_ret
   exact ⟨rfl, HI.out.be⟩
  have c9b0 : decide ((j : Int) < (l4.length : Int)) = true := decide_eq_true (by omega)
  have c9b1 : decide (j < l4.length) = true := decide_eq_true hlt
  have p9 : (0 : Int) ≤ (j : Int) := by omega
  have q9 : (j : Int) < (l4.length : Int) := by omega
  obtain ⟨ad, e9, hx9⟩ := Kd.at_string (Kd.C_below HR4.out HI.out.be) (j : Int) p9 q9
  cases e9; rw [Int.toNat_natCast] at hx9
  have hg : l4[j]? = some (rdOf ByteArray.empty l4 (j : Int)) := by
   unfold rdOf
   rw [List.getElem?_eq_getElem hlt]
   simp [List.getD, List.getElem?_eq_getElem hlt]
  have hkey : keyOf Tryz.prog 9 (.string (rdOf ByteArray.empty l4 (j : Int))) = some (.string (rdOf ByteArray.empty l4 (j : Int)).data.toList) := by
   refine Go.WideMaps.keyOf_string_mk Tryz.underlying9 ?_
   have := List.all_eq_true.1 HS.out _ (List.mem_of_getElem? hg)
   unfold maxLen
   exact of_decide_eq_true this
  replace p9 := eq_true p9; replace q9 := eq_true q9
  go_wp2_with (first
   | (at_mapUpdate; refine wpList_mapUpdate_own _ rfl _ _ _ 91 rfl 9 4 law9 Tryz.underlying91 (plainElem (H := Unit) Tryz.prog 4) W5.heap.size j _ rfl HO.out (by unfold maxLen; omega) _ _ _ rfl rfl hkey _ [] (plainElem_bool Tryz.underlying4 true) ?_; intro w1 hown1 hgrow1)
   | go_in)
  go_roundw
  case rel => exact ⟨j + 1, hlt, by go_num, ⟨by rw [metSet_snoc l4 j _ hg]; exact hown1⟩, ⟨HI.out.grown hgrow1 hM⟩⟩
  case measure => simp [intOf]; omega
end Go.Proofs.YtkedidjjhhjdbaaGreatDoor.Pr
