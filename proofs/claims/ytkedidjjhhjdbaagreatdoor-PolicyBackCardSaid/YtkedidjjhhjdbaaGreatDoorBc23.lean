import Derived.Test.YtkedidjjhhjdbaaGreatDoorBc0
import Derived.Test.YtkedidjjhhjdbaaGreatDoorBc8
import Derived.Test.YtkedidjjhhjdbaaGreatDoorBc9
import Derived.Test.YtkedidjjhhjdbaaGreatDoorBc10
import Derived.Test.YtkedidjjhhjdbaaGreatDoorBc11
import Derived.Test.YtkedidjjhhjdbaaGreatDoorBc5
import Derived.Test.YtkedidjjhhjdbaaGreatDoorBc22
import Derived.Test.YtkedidjjhhjdbaaGreatDoorBc16
import Derived.Test.YtkedidjjhhjdbaaGreatDoorBc15
import Derived.Lib.LazyBuf
import Derived.Test.YtkedidjjhhjdbaaGreatDoorBc18
import Derived.Test.YtkedidjjhhjdbaaGreatDoorBc19
import Derived.Lib.SplitLaws
section
set_option linter.unusedVariables false
set_option linter.unusedSimpArgs false
namespace Go.Proofs.YtkedidjjhhjdbaaGreatDoor.Pr
open Go.RowKit Go.Proofs.YtkedidjjhhjdbaaGreatDoorW.PrintWords Go.Proofs.YtkedidjjhhjdbaaGreatDoorW.PrintLast Go.Proofs.YtkedidjjhhjdbaaGreatDoorW.PrintMore
def allM : List S33 → List S33 → Bool
  | x :: a, y :: b => if eqM x y = true then allM a b else false
  | _, _ => true
def allS : List ByteArray → List ByteArray → Bool
  | x :: a, y :: b => if x.toList = y.toList then allS a b else false
  | _, _ => true
def eqMs (a b : List S33) : Bool := if a.length = b.length then allM a b else false
def eqSs (a b : List ByteArray) : Bool := if a.length = b.length then allS a b else false
theorem allM_refl : ∀ a : List S33, allM a a = true
 | [] => rfl
 | x :: a => by rw [allM, if_pos (eqM_refl x)]; exact allM_refl a
theorem allS_refl : ∀ a : List ByteArray, allS a a = true
 | [] => rfl
 | x :: a => by rw [allS, if_pos rfl]; exact allS_refl a
theorem neg_eqM (x y : S33) : (!(x.f0 == y.f0) || (!(x.f1.toList == y.f1.toList) || (!(x.f2.toList == y.f2.toList)))) = !(eqM x y) := by
 unfold eqM
 cases x.f0 == y.f0 <;> cases x.f1.toList == y.f1.toList <;> cases x.f2.toList == y.f2.toList <;> rfl
theorem wrap_next (i n : Nat) (h : i + 1 ≤ n) (hn : n ≤ 9223372036854775807) : wrap64 ((i : Int) + 1) = ((i + 1 : Nat) : Int) := by rw [wrap_small (n := (i : Int) + 1) (by omega) (by omega)]; omega
theorem sm_l0 (a b : List S33) (e : a.length = b.length) (ha : a.length ≤ 9223372036854775807) : ∀ (n i : Nat), i + n = a.length → Ev (fun k => belfryref04_SameMatch.l0 k a b (i : Int)) (allM (a.drop i) (b.drop i))
 | 0, i, hin => by
  rw [List.drop_of_length_le (show a.length ≤ i by omega)]
  exact Ev.succ (g := fun _ => some true) (Ev.const rfl) (fun k => by rw [belfryref04_SameMatch.l0, if_neg (by omega)])
 | n + 1, i, hin => by
  have hi : i < a.length := by omega
  have hj : i < b.length := by omega
  rw [List.drop_eq_getElem_cons hi, List.drop_eq_getElem_cons hj, allM]; by_cases hm : eqM a[i] b[i] = true; rotate_left
  ·
   rw [if_neg hm]
   exact Ev.succ (g := fun _ => some false) (Ev.const rfl) (fun k => by rw [belfryref04_SameMatch.l0, if_pos (by omega), if_pos (by omega), if_pos (by omega), rd_at33 a i hi, rd_at33 b i hj, neg_eqM, if_pos (by simp [hm])])
  rw [if_pos hm]
  exact Ev.succ (sm_l0 a b e ha n (i + 1) (by omega)) (fun k => by rw [belfryref04_SameMatch.l0, if_pos (by omega), if_pos (by omega), if_pos (by omega), rd_at33 a i hi, rd_at33 b i hj, neg_eqM, hm, if_neg (by simp), wrap_next i a.length (by omega) ha])
theorem sm_ev (a b : List S33) (ha : a.length ≤ 9223372036854775807) : Ev (fun k => belfryref04_SameMatch.f k a b) (eqMs a b) := by
 unfold belfryref04_SameMatch.f eqMs
 by_cases e : a.length = b.length; rotate_left
 ·
  simp only [if_neg e, if_neg (show ¬ (a.length : Int) = (b.length : Int) by omega)]
  exact Ev.const rfl
 simp only [if_pos e, if_pos (show (a.length : Int) = (b.length : Int) by omega)]
 exact sm_l0 a b e ha a.length 0 (by omega)
theorem tx_l0 (a b : List ByteArray) (e : a.length = b.length) (ha : a.length ≤ 9223372036854775807) : ∀ (n i : Nat), i + n = a.length → Ev (fun k => belfryref11_texts.l0 k a b (i : Int)) (allS (a.drop i) (b.drop i))
 | 0, i, hin => by
  rw [List.drop_of_length_le (show a.length ≤ i by omega)]
  exact Ev.succ (g := fun _ => some true) (Ev.const rfl) (fun k => by rw [belfryref11_texts.l0, if_neg (by omega)])
 | n + 1, i, hin => by
  have hi : i < a.length := by omega
  have hj : i < b.length := by omega
  rw [List.drop_eq_getElem_cons hi, List.drop_eq_getElem_cons hj, allS]; by_cases hm : a[i].toList = b[i].toList; rotate_left
  ·
   rw [if_neg hm]
   exact Ev.succ (g := fun _ => some false) (Ev.const rfl) (fun k => by rw [belfryref11_texts.l0, if_pos (by omega), if_pos (by omega), if_pos (by omega), rdOf_at a i hi, rdOf_at b i hj, if_neg hm])
  rw [if_pos hm]
  exact Ev.succ (tx_l0 a b e ha n (i + 1) (by omega)) (fun k => by rw [belfryref11_texts.l0, if_pos (by omega), if_pos (by omega), if_pos (by omega), rdOf_at a i hi, rdOf_at b i hj, if_pos hm, wrap_next i a.length (by omega) ha])
theorem tx_ev (a b : List ByteArray) (ha : a.length ≤ 9223372036854775807) : Ev (fun k => belfryref11_texts.f k a b) (eqSs a b) := by
 unfold belfryref11_texts.f eqSs
 by_cases e : a.length = b.length; rotate_left
 ·
  simp only [if_neg e, if_neg (show ¬ (a.length : Int) = (b.length : Int) by omega)]
  exact Ev.const rfl
 simp only [if_pos e, if_pos (show (a.length : Int) = (b.length : Int) by omega)]
 exact tx_l0 a b e ha a.length 0 (by omega)
def ruleEq (x y : S46) : Bool :=
  if x.f0 = y.f0 then if x.f1 = y.f1 then if x.f2.toList = y.f2.toList then if eqMs x.f3 y.f3 = true then eqSs x.f4 y.f4 else false else false else false else false
def allRu : List S46 → List S46 → Bool
  | x :: a, y :: b => if ruleEq x y = true then allRu a b else false
  | _, _ => true
def sameR (l m : List S46) : Bool := if l.length = m.length then allRu l m else false
theorem ruleEq_refl (x : S46) : ruleEq x x = true := by
 unfold ruleEq eqMs eqSs
 simp [allM_refl, allS_refl]
theorem allRu_refl : ∀ a : List S46, allRu a a = true
 | [] => rfl
 | x :: a => by rw [allRu, if_pos (ruleEq_refl x)]; exact allRu_refl a
theorem sameR_refl (l : List S46) : sameR l l = true := by rw [sameR, if_pos rfl]; exact allRu_refl l
def Small46 (x : S46) : Prop := x.f3.length ≤ 9223372036854775807 ∧ x.f4.length ≤ 9223372036854775807
theorem ref_same_go : ∀ l m : List S46, (∀ x ∈ l, Small46 x) → Ev (fun k => belfryref11_Same.go k l m) (allRu l m)
 | [], m, _ => by
  cases m <;> exact Ev.const rfl
 | x :: a, [], _ => Ev.const rfl
 | x :: a, y :: b, hs => by
  have hx := hs x (List.mem_cons_self ..)
  have ih := ref_same_go a b (fun z hz => hs z (List.mem_cons_of_mem _ hz))
  unfold belfryref11_Same.go allRu ruleEq
  by_cases h0 : x.f0 = y.f0; rotate_left
  · simp only [if_neg h0]; exact Ev.const rfl
  simp only [if_pos h0]; by_cases h1 : x.f1 = y.f1; rotate_left
  · simp only [if_neg h1]; exact Ev.const rfl
  simp only [if_pos h1]; by_cases h2 : x.f2.toList = y.f2.toList; rotate_left
  · simp only [if_neg h2]; exact Ev.const rfl
  simp only [if_pos h2]
  refine Ev.bind (sm_ev x.f3 y.f3 hx.1) ?_
  by_cases h3 : eqMs x.f3 y.f3 = true; rotate_left
  · simp only [if_neg h3]; exact Ev.const rfl
  simp only [if_pos h3]
  refine Ev.bind (tx_ev x.f4 y.f4 hx.2) ?_
  by_cases h4 : eqSs x.f4 y.f4 = true
  · simp only [if_pos h4]; exact ih
  simp only [if_neg h4]; exact Ev.const rfl
theorem ref_same_ev (l m : List S46) (hs : ∀ x ∈ l, Small46 x) : Ev (fun k => belfryref11_Same.f k l m) (sameR l m) := by
 unfold belfryref11_Same.f sameR
 by_cases e : l.length = m.length; rotate_left
 · simp only [if_neg e]; exact Ev.const rfl
 simp only [if_pos e]; exact ref_same_go l m hs
end Go.Proofs.YtkedidjjhhjdbaaGreatDoor.Pr
end
section
set_option linter.unusedVariables false
set_option linter.unusedSimpArgs false
namespace Go.Proofs.YtkedidjjhhjdbaaGreatDoor.Pr
open Go.RowKit Go.Proofs.YtkedidjjhhjdbaaGreatDoorW.PrintWords Go.Proofs.YtkedidjjhhjdbaaGreatDoorW.PrintLast Go.Proofs.YtkedidjjhhjdbaaGreatDoorW.PrintMore
def policy_Print.go (k : Nat) : List S46 → Int → List UInt8 → Option (ByteArray × Int × Int)
  | [], _, acc => some (⟨acc.toArray⟩, 0, 0)
  | x :: l, i, acc => (policy_Right.f k x.f0 x.f1 x.f2 x.f3 x.f4).bind fun why =>
    if why = 0 then (policy_line.f k x.f0 x.f1 x.f2 x.f3 x.f4).bind fun s => if acc.length + s.size < 140737488355000 then policy_Print.go k l (i + 1) (acc ++ s.data.toList ++ [10]) else none
    else some (⟨#[]⟩, why, i)
def policy_Print.f (k : Nat) (l : List S46) : Option (ByteArray × Int × Int) := if l.length > 32 then some (⟨#[]⟩, 7, 0) else policy_Print.go k l 0 []
structure PrI (w : World) (acc : List UInt8) (W : World) : Prop where
  bu : Lib.IsBuilder 76 5 w.heap.size w.heap.size (Lib.byteCells acc) W
  be : Below w.heap.size w W
theorem PrI.below {w W W' : World} {acc : List UInt8} (h : PrI w acc W) (hb : Below W.heap.size W W') : PrI w acc W' :=
 ⟨isBuilder_move h.bu (fun i _ hi => hb.block i hi), h.be.trans (hb.mono h.be.size)⟩
theorem PrI.wrote {w W W' : World} {acc : List UInt8} {s : ByteArray} (h : PrI w acc W) (hb : Lib.BuilderAt 76 5 w.heap.size w.heap.size (.pointer (some ⟨w.heap.size, 0, none⟩)) (Lib.byteCells acc ++ Lib.strCells s) W') (hB : Below w.heap.size W W') : PrI w (acc ++ s.data.toList) W' := by
 refine ⟨.inr ?_, h.be.trans hB⟩
 have e : Lib.byteCells (acc ++ s.data.toList) = Lib.byteCells acc ++ Lib.strCells s := by rw [Lib.strCells_eq]; exact List.map_append
 rw [e]; exact hb
theorem nl_data (s : ByteArray) : (s ++ (⟨#[10]⟩ : ByteArray)).data.toList = s.data.toList ++ [10] := by
 show (s ++ (⟨#[10]⟩ : ByteArray)).data.toList = _
 simp [ByteArray.data_append]
set_option maxHeartbeats 8000000 in
set_option maxRecDepth 100000 in
theorem policy_Print.calls (k : Nat) (A0 : Option Addr) (c0 : Nat) (l0 : List S46) (r1 : ByteArray) (r2 r3 : Int) (w : World) (hr0 : Kd.C k46 w A0 l0.length l0) (hc0 : l0.length ≤ c0) (h : policy_Print.f k l0 = some (r1, r2, r3))
  (he_ : EnvW w := by repeat (first | with_reducible assumption | with_reducible exact env_of (by with_reducible assumption) (by with_reducible assumption) | with_reducible exact env_out (by with_reducible assumption) | with_reducible apply env_alloc | with_reducible apply env_drewN | with_reducible apply env_drew | with_reducible refine env_set ?_ (by with_reducible assumption) (by with_reducible assumption))) :
  Calls Tryz.prog 16 #[.slice A0 l0.length c0] w fun e w' => e = .returned (.tuple #[.string r1, .int .i64 r2, .int .i64 r3]) ∧ Below w.heap.size w w' := by
 unfold policy_Print.f at h
 have hu46 := Tryz.underlying46; have HR0 := Aside0.mk hr0; have HE := Aside0.mk he_; clear hr0 he_; by_cases hl : l0.length > 32
 ·
  rw [if_pos hl] at h; cases h
  have e1 : decide (32 < (l0.length : Int)) = true := decide_eq_true (by omega)
  have e2 : decide (32 < l0.length) = true := decide_eq_true hl
  clear hl
  go_enter Tryz.func16, Tryz.ntmps16
  go_wp2; go_ret3
  exact ⟨rfl, Below.refl _ _⟩
 rw [if_neg hl] at h
 have e1 : decide (32 < (l0.length : Int)) = false := decide_eq_false (by omega)
 have e2 : decide (32 < l0.length) = false := decide_eq_false hl
 have HH := Aside0.mk h
 have hlb : (l0.length : Int) ≤ 32 := by omega
 have HI : Aside0 (PrI w [] (w.alloc (.cells #[.pointer none, .slice none 0 0] 76))) := ⟨⟨Lib.fresh_isBuilder 76 5 w, (Below.refl _ _).alloc (Nat.le_refl _) _⟩⟩
 clear h hl
 go_enter Tryz.func16, Tryz.ntmps16
 go_wp2
 go_loopw [14] (fun i wr => ∃ (j : Nat) (acc : List UInt8), j ≤ l0.length ∧ i = .int .i64 j ∧ Aside0 (policy_Print.go k (l0.drop j) j acc = some (r1, r2, r3)) ∧ Aside0 (PrI w acc wr)) (fun i _ => l0.length - (intOf i).toNat)
 case atStart => exact ⟨0, [], Nat.zero_le _, rfl, HH, HI⟩
 case round =>
  obtain ⟨j, acc, hj, rfl, HP, HV⟩ := hrel
  clear HH HI; by_cases hlt : j < l0.length; rotate_left
  ·
   have c9b0 : decide ((j : Int) < (l0.length : Int)) = false := decide_eq_false (by omega)
   have c9b1 : decide (j < l0.length) = false := decide_eq_false hlt
   have hp := HP.out; rw [List.drop_eq_nil_of_le (by omega), policy_Print.go] at hp; cases hp
   go_wp2_with fail
   refine (Tryz.Builder_String_any w.heap.size w.heap.size acc _ HV.out.bu HV.out.be.size).mono ?_
   rintro e w2 ⟨rfl, hB⟩
   have HB := Aside0.mk (HV.out.be.trans hB); clear hB
   go_wp2_with fail
   go_ret3
   exact ⟨rfl, HB.out⟩
  have c9b0 : decide ((j : Int) < (l0.length : Int)) = true := decide_eq_true (by omega)
  have c9b1 : decide (j < l0.length) = true := decide_eq_true hlt
  have p9 : (0 : Int) ≤ (j : Int) := by omega
  have q9 : (j : Int) < (l0.length : Int) := by omega
  obtain ⟨ad, A3, c3, A4, c4, e9, h0, h1, h2, h3, h4, l3, g3, l4, g4⟩ := at_T46 HR0.out (j : Int) p9 q9
  cases e9
  rw [Int.toNat_natCast] at h0 h1 h2 h3 h4
  have hx0 := (HV.out.be.cell (cell_place h0).2).trans h0; have hx1 := (HV.out.be.cell (cell_place h1).2).trans h1; have hx2 := (HV.out.be.cell (cell_place h2).2).trans h2; have hx3 := (HV.out.be.cell (cell_place h3).2).trans h3; have hx4 := (HV.out.be.cell (cell_place h4).2).trans h4; have HG3 := Aside0.mk g3; have HG4 := Aside0.mk g4; clear h0 h1 h2 h3 h4 g3 g4; replace p9 := eq_true p9; replace q9 := eq_true q9
  go_upto_region 7 with (fail)
  rw [List.drop_eq_getElem_cons hlt, show l0[j] = rd_T46 l0 (j : Int) by simp [rd_T46, List.getD, List.getElem?_eq_getElem hlt], policy_Print.go] at HP
  generalize rd_T46 l0 (j : Int) = x at *
  have HV1 := Aside0.mk (HV.out.below (below_alloc (Below.refl _ _) (.cells #[.bool x.f0, .int .i64 x.f1, .string x.f2, .slice A3 x.f3.length c3, .slice A4 x.f4.length c4] 46))); have BK := Aside0.mk (blk_new wr (.cells #[.bool x.f0, .int .i64 x.f1, .string x.f2, .slice A3 x.f3.length c3, .slice A4 x.f4.length c4] 46))
  generalize wr.alloc (.cells #[.bool x.f0, .int .i64 x.f1, .string x.f2, .slice A3 x.f3.length c3, .slice A4 x.f4.length c4] 46) = W1 at HV1 BK ⊢
  generalize wr.heap.size = g at BK ⊢
  clear HV hx0 hx1 hx2 hx3 hx4
  obtain ⟨why, hw, hp⟩ := Option.bind_eq_some_iff.mp HP.out
  have hx0 := (blk_cell BK.out 0).trans rfl; have hx1 := (blk_cell BK.out 1).trans rfl; have hx2 := (blk_cell BK.out 2).trans rfl; have hx3 := (blk_cell BK.out 3).trans rfl; have hx4 := (blk_cell BK.out 4).trans rfl; have HW := Aside0.mk hw; have HP1 := Aside0.mk hp; clear HP hw hp
  go_wp2_with fail
  refine (policy_Right.calls k x.f0 x.f1 x.f2 A3 c3 x.f3 A4 c4 x.f4 why _ (Kd.C_below HG3.out HV1.out.be) l3 (Kd.C_below HG4.out HV1.out.be) l4 HW.out (env_below HE.out HV1.out.be)).mono ?_
  rintro e w2 ⟨rfl, hbl⟩
  replace HV1 := Aside0.mk (HV1.out.below hbl)
  replace BK := Aside0.mk (blk_below BK.out hbl)
  clear hbl hx0 hx1 hx2 hx3 hx4; have hx0 := (blk_cell BK.out 0).trans rfl; have hx1 := (blk_cell BK.out 1).trans rfl; have hx2 := (blk_cell BK.out 2).trans rfl; have hx3 := (blk_cell BK.out 3).trans rfl; have hx4 := (blk_cell BK.out 4).trans rfl; have hp := HP1.out; clear HP1; by_cases d1 : why = 0; rotate_left
  ·
   rw [if_neg d1] at hp; cases hp
   have d2 : (r2 == 0) = false := beq_eq_false_iff_ne.mpr d1
   have d3 : (r2 != 0) = true := bne_iff_ne.mpr d1
   go_wp2_with fail
   go_ret3
   exact ⟨rfl, HV1.out.be⟩
  subst d1; rw [if_pos rfl] at hp
  obtain ⟨s, hs, hp⟩ := Option.bind_eq_some_iff.mp hp
  by_cases hz : acc.length + s.size < 140737488355000; rotate_left
  · rw [if_neg hz] at hp; cases hp
  rw [if_pos hz] at hp; have HS := Aside0.mk hs; have HP2 := Aside0.mk hp; clear hs hp
  go_wp2_with fail
  refine (policy_line.calls k x.f0 x.f1 x.f2 A3 c3 x.f3 A4 c4 x.f4 s _ (Kd.C_below HG3.out HV1.out.be) l3 (Kd.C_below HG4.out HV1.out.be) l4 HS.out).mono ?_
  rintro e w3 ⟨rfl, hbl⟩
  replace HV1 := Aside0.mk (HV1.out.below hbl)
  clear hbl hx0 hx1 hx2 hx3 hx4 BK
  have hsz : (s.size : Int) < 140737488355000 := by omega
  have z1 : (⟨#[10]⟩ : ByteArray).size = 1 := rfl
  go_wp2_with fail
  refine (Tryz.Builder_WriteString w.heap.size w.heap.size _ _ _ HV1.out.bu ?_ HV1.out.be.size).mono ?_
  ·
   rw [Lib.byteCells_length, ByteArray.size_append]
   show acc.length + (s.size + 1) ≤ _
   omega
  rintro e w4 ⟨rfl, hb4, hB4⟩
  have HV2 := Aside0.mk (HV1.out.wrote hb4 hB4); clear hb4 hB4 HV1
  go_wp2_with fail
  go_roundw
  case measure => simp [intOf]; omega
  case rel =>
   refine ⟨j + 1, acc ++ s.data.toList ++ [10], hlt, by simp, ⟨?_⟩, ⟨?_⟩⟩
   · exact HP2.out
   have h := HV2.out; rw [nl_data, ← List.append_assoc] at h; exact h
end Go.Proofs.YtkedidjjhhjdbaaGreatDoor.Pr
end
section
set_option linter.unusedVariables false
set_option linter.unusedSimpArgs false
namespace Go.Proofs.YtkedidjjhhjdbaaGreatDoor.Pr
open Go.RowKit Go.Proofs.YtkedidjjhhjdbaaGreatDoorW.PrintWords Go.Proofs.YtkedidjjhhjdbaaGreatDoorW.PrintLast Go.Proofs.YtkedidjjhhjdbaaGreatDoorW.PrintMore
def opB (c : Int) : ByteArray := if c = 1 then (⟨#[61]⟩ : ByteArray) else if c = 2 then (⟨#[33, 61]⟩ : ByteArray) else if c = 3 then (⟨#[61, 126]⟩ : ByteArray) else if c = 4 then (⟨#[33, 126]⟩ : ByteArray) else (⟨#[]⟩ : ByteArray)
theorem opB_size (c : Int) : (opB c).size ≤ 2 := by
 unfold opB
 split
 · decide
 split
 · decide
 split
 · decide
 split <;> decide
def ops5 : List ByteArray := [(⟨#[]⟩ : ByteArray), (⟨#[61]⟩ : ByteArray), (⟨#[33, 61]⟩ : ByteArray), (⟨#[61, 126]⟩ : ByteArray), (⟨#[33, 126]⟩ : ByteArray)]
end Go.Proofs.YtkedidjjhhjdbaaGreatDoor.Pr
end
section
set_option linter.unusedVariables false
set_option linter.unusedSimpArgs false
namespace Go.Proofs.YtkedidjjhhjdbaaGreatDoor.Pr
open Go.RowKit Go.Proofs.YtkedidjjhhjdbaaGreatDoorW.PrintWords Go.Proofs.YtkedidjjhhjdbaaGreatDoorW.PrintLast Go.Proofs.YtkedidjjhhjdbaaGreatDoorW.PrintMore
theorem bytes_eq {a : ByteArray} {l : List UInt8} (h : a.data.toList = l) : a = ⟨l.toArray⟩ := by
 subst h; rfl
theorem data_app (a b : ByteArray) : (a ++ b).data.toList = a.data.toList ++ b.data.toList := by simp [ByteArray.data_append]
theorem data_mk (l : List UInt8) : (⟨l.toArray⟩ : ByteArray).data.toList = l := rfl
theorem size_mk (l : List UInt8) : (⟨l.toArray⟩ : ByteArray).size = l.length := by show l.toArray.size = l.length; exact List.size_toArray ..
theorem size_data (a : ByteArray) : a.size = a.data.toList.length := Array.length_toList.symm
theorem sign_op (c : Int) : attr_sign.f c = some (opB c) := by
 unfold attr_sign.f opB
 split
 · rfl
 split
 · rfl
 split
 · rfl
 split <;> rfl
def quoB (s : ByteArray) : ByteArray := (⟨#[34]⟩ : ByteArray) ++ (⟨(escL s.data.toList).toArray⟩ : ByteArray) ++ (⟨#[34]⟩ : ByteArray)
def quoL (s : ByteArray) : List UInt8 := 34 :: (escL s.data.toList ++ [34])
theorem quoB_data (s : ByteArray) : (quoB s).data.toList = quoL s := by
 unfold quoB quoL
 rw [data_app, data_app, data_mk]; rfl
theorem escL_le2 (l : List UInt8) : (escL l).length ≤ 2 * l.length := by
 rw [escL_len]
 have : specN l ≤ l.length := List.countP_le_length
 omega
theorem quoB_size (s : ByteArray) : (quoB s).size ≤ 2 * s.size + 2 := by
 rw [size_data, quoB_data, size_data s]
 unfold quoL
 have := escL_le2 s.data.toList
 simp only [List.length_cons, List.length_append, List.length_nil]; omega
structure MOk (m : S33) : Prop where
  o1 : 1 ≤ m.f0
  o4 : m.f0 ≤ 4
  ke : keyB m.f1 = true
  pl : plainB m.f2 = true
theorem MOk.ks {m : S33} (h : MOk m) : m.f1.size ≤ 64 := key_size h.ke
theorem MOk.vs {m : S33} (h : MOk m) : m.f2.size ≤ 256 := by
 have := h.pl
 unfold plainB at this
 simp only [Bool.and_eq_true, decide_eq_true_eq] at this
 exact this.1
theorem wrongL_ok : ∀ l : List S33, wrongL l = 0 → ∀ m ∈ l, MOk m
 | [], _, m, h => by cases h
 | x :: l, h, m, hm => by
  rw [wrongL] at h; by_cases h1 : x.f0 < 1 ∨ 4 < x.f0
  · rw [if_pos h1] at h; cases h
  rw [if_neg h1] at h
  cases hk : keyB x.f1 with
  | false => rw [hk] at h; simp at h
  | true =>
   cases hp : plainB x.f2 with
   | false => rw [hk, hp] at h; simp at h
   | true =>
    rw [hk, hp] at h
    rcases List.mem_cons.1 hm with rfl | hm
    · exact ⟨by omega, by omega, hk, hp⟩
    exact wrongL_ok l (by simpa using h) m hm
structure ROk (d : Bool) (kd : Int) (tn : ByteArray) (sc : List S33) (h : List ByteArray) : Prop where
  k0 : 0 ≤ kd
  k3 : kd ≤ 3
  tto : tn.toList = ([42] : List UInt8) ∨ nameB tn = true
  s8 : sc.length ≤ 8
  sm : ∀ m ∈ sc, MOk m
  dn : d = true → sc.length ≤ 1 ∧ h = []
  h16 : h.length ≤ 16
  hk : ∀ x ∈ h, keyB x = true
theorem right_ok {d : Bool} {kd : Int} {tn : ByteArray} {sc : List S33} {h : List ByteArray} (e : rightL d kd tn sc h = 0) : ROk d kd tn sc h := by
 unfold rightL at e
 by_cases h1 : kd < 0 ∨ 3 < kd
 · rw [if_pos h1] at e; cases e
 rw [if_neg h1] at e; by_cases h2 : tn.toList = ([42] : List UInt8) ∨ nameB tn = true; rotate_left
 · rw [if_neg h2] at e; cases e
 rw [if_pos h2] at e; by_cases h3 : rightM sc = 0; rotate_left
 · rw [if_neg h3] at e; exact absurd e h3
 rw [if_pos h3] at e
 have h8 : sc.length ≤ 8 ∧ wrongL sc = 0 := by
  unfold rightM at h3
  by_cases h8 : (sc.length : Int) > 8
  · rw [if_pos h8] at h3; cases h3
  rw [if_neg h8] at h3; exact ⟨by omega, h3⟩
 by_cases h4 : d = true ∧ ((sc.length : Int) > 1 ∨ (h.length : Int) > 0)
 · rw [if_pos h4] at e; cases e
 rw [if_neg h4] at e
 unfold hidL at e
 by_cases h5 : (h.length : Int) > 16
 · rw [if_pos h5] at e; cases e
 rw [if_neg h5] at e; by_cases h6 : h.all keyB = true; rotate_left
 · rw [if_neg h6] at e; cases e
 refine ⟨by omega, by omega, h2, h8.1, wrongL_ok sc h8.2, fun hd => ?_, by omega, fun x hx => List.all_eq_true.1 h6 x hx⟩
 have hn : ¬ ((sc.length : Int) > 1 ∨ (h.length : Int) > 0) := fun x => h4 ⟨hd, x⟩
 exact ⟨by omega, List.length_eq_zero_iff.1 (by omega)⟩
theorem ROk.ts {d : Bool} {kd : Int} {tn : ByteArray} {sc : List S33} {h : List ByteArray} (r : ROk d kd tn sc h) : tn.size ≤ 32 := by
 rcases r.tto with e | e
 ·
  rw [Lib.toList_data] at e
  rw [size_data, e]; decide
 unfold nameB at e
 simp only [Bool.and_eq_true, decide_eq_true_eq] at e
 exact e.1.1.2
theorem toNat_inj {a : UInt8} {n : Nat} (hn : n < 256) (h : (a.toNat : Int) = (n : Int)) : a = UInt8.ofNat n := by
 have : a.toNat = n := by omega
 rw [← this]; simp
theorem attr_quote (s : ByteArray) (hs : s.size < 4294967281) : attr_Quote.f s = some (quoB s) := by
 unfold attr_Quote.f quoB
 rw [if_pos hs]
def matB (m : S33) : ByteArray := (m.f1 ++ opB m.f0) ++ quoB m.f2
def matL (m : S33) : List UInt8 := m.f1.data.toList ++ (opB m.f0).data.toList ++ quoL m.f2
theorem matB_data (m : S33) : (matB m).data.toList = matL m := by unfold matB matL; rw [data_app, data_app, quoB_data]
theorem MOk.ms {m : S33} (h : MOk m) : (matB m).size ≤ 580 := by
 have h1 := h.ks; have h2 := h.vs; have h3 := opB_size m.f0; have h4 := quoB_size m.f2
 unfold matB
 rw [ByteArray.size_append, ByteArray.size_append]; omega
def comL : List (List UInt8) → List UInt8
  | [] => []
  | [x] => x
  | x :: y :: r => x ++ ([44, 32] ++ comL (y :: r))
theorem join_com : ∀ l : List (List UInt8), Lib.join l [44, 32] = comL l
 | [] => rfl
 | [x] => by rw [Lib.join_one]; rfl
 | x :: y :: r => by
  rw [comL, ← join_com (y :: r)]
  simp [Lib.join, List.intercalate, List.intersperse]
theorem comL_len (B : Nat) : ∀ l : List (List UInt8), (∀ x ∈ l, x.length ≤ B) → (comL l).length ≤ l.length * (B + 2)
 | [], _ => by simp [comL]
 | [x], h => by
  have := h x (List.mem_cons_self ..)
  rw [comL, List.length_singleton]; omega
 | x :: y :: r, h => by
  have h1 := h x (List.mem_cons_self ..)
  have h2 := comL_len B (y :: r) (fun z hz => h z (List.mem_cons_of_mem _ hz))
  rw [comL, List.length_append, List.length_append, List.length_cons (a := x), Nat.succ_mul]
  have : ([44, 32] : List UInt8).length = 2 := rfl
  omega
def matchL (l : List S33) : List UInt8 := 123 :: (comL (l.map matL) ++ [125])
theorem join_mat (l : List S33) : ((l.map matB).map (·.data.toList)) = l.map matL := by
 rw [List.map_map]
 exact List.map_congr_left (fun m _ => matB_data m)
theorem mat_len {m : S33} (h : MOk m) : (matL m).length ≤ 580 := by rw [← matB_data, ← size_data]; exact h.ms
theorem com_mat (l : List S33) (h8 : l.length ≤ 8) (h : ∀ m ∈ l, MOk m) : (comL (l.map matL)).length ≤ 4656 := by
 have := comL_len 580 (l.map matL) (fun x hx => by obtain ⟨m, hm, rfl⟩ := List.mem_map.1 hx; exact mat_len (h m hm))
 rw [List.length_map] at this
 have h2 : l.length * (580 + 2) ≤ 8 * (580 + 2) := Nat.mul_le_mul_right _ h8
 omega
theorem join_str (l : List ByteArray) (B : Nat) (hl : l.length ≤ 1000000) (h : ∀ x ∈ l, x.size ≤ 1000) : strings_Join.f l (⟨#[44, 32]⟩ : ByteArray) = some ⟨(comL (l.map (·.data.toList))).toArray⟩ := by
 unfold strings_Join.f
 have e : (⟨#[44, 32]⟩ : ByteArray).data.toList = [44, 32] := rfl
 rw [e, join_com]
 have := comL_len 1000 (l.map (·.data.toList)) (fun x hx => by obtain ⟨m, hm, rfl⟩ := List.mem_map.1 hx; rw [← size_data]; exact h m hm)
 rw [List.length_map] at this
 have h2 : l.length * (1000 + 2) ≤ 1000000 * (1000 + 2) := Nat.mul_le_mul_right _ hl
 rw [if_pos ⟨by omega, by omega⟩]
theorem match_l0 (l : List S33) (h8 : l.length ≤ 8) (h : ∀ m ∈ l, MOk m) : ∀ (n i : Nat), i + n = l.length →
  Ev (fun k => attr_MatchText.l0 k ((l.take i).map matB) l (l.length : Int) (i : Int)) ⟨(matchL l).toArray⟩
 | 0, i, hin => by
  rw [List.take_of_length_le (show l.length ≤ i by omega)]
  have hj := join_str (l.map matB) 0 (by rw [List.length_map]; omega) (fun x hx => by obtain ⟨m, hm, rfl⟩ := List.mem_map.1 hx; have := (h m hm).ms; omega)
  rw [join_mat] at hj; have hc := com_mat l h8 h
  refine Ev.succ (g := fun _ => some ⟨(matchL l).toArray⟩) (Ev.const rfl) (fun k => ?_)
  rw [attr_MatchText.l0, if_neg (by omega), hj, Option.bind_some, if_pos (by rw [size_mk]; omega), if_pos (by rw [ByteArray.size_append]; have h1 : (⟨#[123]⟩ : ByteArray).size = 1 := rfl; have h2 := size_mk (comL (l.map matL)); omega)]
  exact congrArg some (bytes_eq (by rw [data_app, data_app, data_mk]; rfl))
 | n + 1, i, hin => by
  have hi : i < l.length := by omega
  have hx := h l[i] (List.getElem_mem hi); have h1 := hx.ks; have h2 := hx.vs; have h3 := opB_size l[i].f0; have h4 := quoB_size l[i].f2
  refine Ev.succ (match_l0 l h8 h n (i + 1) (by omega)) (fun k => ?_)
  rw [attr_MatchText.l0, if_pos (by omega), if_pos (by omega), if_pos (by omega), rd_at33 l i hi, sign_op, Option.bind_some, if_pos (by omega), attr_quote _ (by omega), Option.bind_some, if_pos (by rw [ByteArray.size_append]; omega), if_pos (by simp; omega), wrap_small (n := (i : Int) + 1) (by omega) (by omega), show (i : Int) + 1 = ((i + 1 : Nat) : Int) by omega, List.take_succ_eq_append_getElem hi, List.map_append]
  rfl
theorem match_ev (l : List S33) (h8 : l.length ≤ 8) (h : ∀ m ∈ l, MOk m) : Ev (fun k => attr_MatchText.f k l) ⟨(matchL l).toArray⟩ := match_l0 l h8 h l.length 0 (by omega)
def kindB (c : Int) : ByteArray := if c = 0 then (⟨#[97, 110, 121]⟩ : ByteArray) else if c = 1 then (⟨#[109, 101, 116, 114, 105, 99, 115]⟩ : ByteArray) else if c = 2 then (⟨#[108, 111, 103, 115]⟩ : ByteArray) else if c = 3 then (⟨#[116, 114, 97, 99, 101, 115]⟩ : ByteArray) else (⟨#[]⟩ : ByteArray)
theorem kind_eq (c : Int) : policy_Kind.f c = some (kindB c) := by
 unfold policy_Kind.f kindB
 split
 · rfl
 split
 · rfl
 split
 · rfl
 split <;> rfl
theorem kindB_size (c : Int) : (kindB c).size ≤ 7 := by
 unfold kindB
 split
 · decide
 split
 · decide
 split
 · decide
 split <;> decide
def headL (d : Bool) : List UInt8 := if d = true then [100, 101, 110, 121, 32] else [97, 108, 108, 111, 119, 32]
def whereL (sc : List S33) : List UInt8 := if sc = [] then [] else [32, 119, 104, 101, 114, 101, 32] ++ matchL sc
def hideL (h : List ByteArray) : List UInt8 := if h = [] then [] else [32, 104, 105, 100, 101, 32] ++ comL (h.map (·.data.toList))
def lineL (d : Bool) (kd : Int) (tn : ByteArray) (sc : List S33) (h : List ByteArray) : List UInt8 :=
  headL d ++ ((kindB kd).data.toList ++ ([32, 116, 111, 32] ++ (tn.data.toList ++ (whereL sc ++ hideL h))))
section
variable {d : Bool} {kd : Int} {tn : ByteArray} {sc : List S33} {h : List ByteArray}
theorem com_hide (r : ROk d kd tn sc h) : (comL (h.map (·.data.toList))).length ≤ 1056 := by
 have := comL_len 64 (h.map (·.data.toList)) (fun x hx => by obtain ⟨m, hm, rfl⟩ := List.mem_map.1 hx; rw [← size_data]; exact key_size (r.hk m hm))
 rw [List.length_map] at this
 have h2 : h.length * (64 + 2) ≤ 16 * (64 + 2) := Nat.mul_le_mul_right _ r.h16
 omega
theorem line_j0 (r : ROk d kd tn sc h) (x3 v : ByteArray) (hx : x3.size ≤ 5) (hv : v.data.toList = x3.data.toList ++ ([32] ++ ((kindB kd).data.toList ++ ([32, 116, 111, 32] ++ (tn.data.toList ++ (whereL sc ++ hideL h)))))) : Ev (fun k => policy_line.j0 k x3 d kd tn sc h) v := by
 have h1 := kindB_size kd; have h2 := r.ts; have hm := com_mat sc r.s8 r.sm; have hh := com_hide r
 have hj := join_str h 0 (by have := r.h16; omega) (fun x hx => by have := key_size (r.hk x hx); omega)
 have c1 : (⟨#[32]⟩ : ByteArray).size = 1 := rfl
 have c4 : (⟨#[32, 116, 111, 32]⟩ : ByteArray).size = 4 := rfl
 have c7 : (⟨#[32, 119, 104, 101, 114, 101, 32]⟩ : ByteArray).size = 7 := rfl
 have c6 : (⟨#[32, 104, 105, 100, 101, 32]⟩ : ByteArray).size = 6 := rfl
 have em : (⟨(matchL sc).toArray⟩ : ByteArray).size ≤ 4658 := by rw [size_mk]; unfold matchL; simp only [List.length_cons, List.length_append, List.length_nil]; omega
 have eh : (⟨(comL (h.map (·.data.toList))).toArray⟩ : ByteArray).size ≤ 1056 := by rw [size_mk]; exact hh
 have hS : sc.length > 0 → sc ≠ [] := fun h e => by rw [e] at h; cases h
 have hH : h.length > 0 → h ≠ [] := fun h e => by rw [e] at h; cases h
 by_cases s0 : (sc.length : Int) > 0; rotate_left
 ·
  by_cases h0 : (h.length : Int) > 0; rotate_left
  ·
   refine Ev.succ (g := fun _ => some v) (Ev.const rfl) (fun k => ?_)
   rw [policy_line.j0, kind_eq, Option.bind_some, if_pos (by omega), if_pos (by simp only [ByteArray.size_append]; omega), if_pos (by simp only [ByteArray.size_append]; omega), if_pos (by simp only [ByteArray.size_append]; omega), if_neg s0, if_neg h0]
   congr 1
   refine (bytes_eq ?_).trans (bytes_eq hv).symm
   simp only [data_app, whereL, hideL, if_pos (List.length_eq_zero_iff.1 (show sc.length = 0 by omega)), if_pos (List.length_eq_zero_iff.1 (show h.length = 0 by omega)), List.append_assoc, List.append_nil]
  refine Ev.succ (g := fun _ => some v) (Ev.const rfl) (fun k => ?_)
  rw [policy_line.j0, kind_eq, Option.bind_some, if_pos (by omega), if_pos (by simp only [ByteArray.size_append]; omega), if_pos (by simp only [ByteArray.size_append]; omega), if_pos (by simp only [ByteArray.size_append]; omega), if_neg s0, if_pos h0, hj, Option.bind_some, if_pos (by omega), if_pos (by simp only [ByteArray.size_append]; omega)]
  congr 1
  refine (bytes_eq ?_).trans (bytes_eq hv).symm
  simp only [data_app, whereL, hideL, if_pos (List.length_eq_zero_iff.1 (show sc.length = 0 by omega)), if_neg (hH (by omega)), List.append_assoc, List.nil_append]
 by_cases h0 : (h.length : Int) > 0; rotate_left
 ·
  refine Ev.succ (g := fun k => (attr_MatchText.f k sc).bind fun t149 => (if 7 + t149.size ≤ 9223372036854775807 then (if (x3 ++ ((((⟨#[32]⟩ : ByteArray) ++ kindB kd) ++ (⟨#[32, 116, 111, 32]⟩ : ByteArray)) ++ tn)).size + ((⟨#[32, 119, 104, 101, 114, 101, 32]⟩ : ByteArray) ++ t149).size ≤ 9223372036854775807 then (some ((x3 ++ ((((⟨#[32]⟩ : ByteArray) ++ kindB kd) ++ (⟨#[32, 116, 111, 32]⟩ : ByteArray)) ++ tn)) ++ ((⟨#[32, 119, 104, 101, 114, 101, 32]⟩ : ByteArray) ++ t149))) else (none)) else (none))) ?_ (fun k => by
   rw [policy_line.j0, kind_eq, Option.bind_some, if_pos (by omega), if_pos (by simp only [ByteArray.size_append]; omega), if_pos (by simp only [ByteArray.size_append]; omega), if_pos (by simp only [ByteArray.size_append]; omega), if_pos s0]
   simp only [if_neg h0])
  refine Ev.bind (match_ev sc r.s8 r.sm) ?_
  refine Ev.const ?_
  rw [if_pos (by omega), if_pos (by simp only [ByteArray.size_append]; omega)]
  congr 1
  refine (bytes_eq ?_).trans (bytes_eq hv).symm
  simp only [data_app, whereL, hideL, if_neg (hS (by omega)), if_pos (List.length_eq_zero_iff.1 (show h.length = 0 by omega)), List.append_assoc, List.append_nil]
 refine Ev.succ (g := fun k => (attr_MatchText.f k sc).bind fun t149 => (if 7 + t149.size ≤ 9223372036854775807 then (if (x3 ++ ((((⟨#[32]⟩ : ByteArray) ++ kindB kd) ++ (⟨#[32, 116, 111, 32]⟩ : ByteArray)) ++ tn)).size + ((⟨#[32, 119, 104, 101, 114, 101, 32]⟩ : ByteArray) ++ t149).size ≤ 9223372036854775807 then (if 6 + (⟨(comL (h.map (·.data.toList))).toArray⟩ : ByteArray).size ≤ 9223372036854775807 then (if ((x3 ++ ((((⟨#[32]⟩ : ByteArray) ++ kindB kd) ++ (⟨#[32, 116, 111, 32]⟩ : ByteArray)) ++ tn)) ++ ((⟨#[32, 119, 104, 101, 114, 101, 32]⟩ : ByteArray) ++ t149)).size + ((⟨#[32, 104, 105, 100, 101, 32]⟩ : ByteArray) ++ (⟨(comL (h.map (·.data.toList))).toArray⟩ : ByteArray)).size ≤ 9223372036854775807 then (some (((x3 ++ ((((⟨#[32]⟩ : ByteArray) ++ kindB kd) ++ (⟨#[32, 116, 111, 32]⟩ : ByteArray)) ++ tn)) ++ ((⟨#[32, 119, 104, 101, 114, 101, 32]⟩ : ByteArray) ++ t149)) ++ ((⟨#[32, 104, 105, 100, 101, 32]⟩ : ByteArray) ++ (⟨(comL (h.map (·.data.toList))).toArray⟩ : ByteArray)))) else (none)) else (none)) else (none)) else (none))) ?_ (fun k => by
  rw [policy_line.j0, kind_eq, Option.bind_some, if_pos (by omega), if_pos (by simp only [ByteArray.size_append]; omega), if_pos (by simp only [ByteArray.size_append]; omega), if_pos (by simp only [ByteArray.size_append]; omega), if_pos s0]
  simp only [if_pos h0, hj, Option.bind_some])
 refine Ev.bind (match_ev sc r.s8 r.sm) ?_
 refine Ev.const ?_
 rw [if_pos (by omega), if_pos (by simp only [ByteArray.size_append]; omega), if_pos (by omega), if_pos (by simp only [ByteArray.size_append]; omega)]
 congr 1
 refine (bytes_eq ?_).trans (bytes_eq hv).symm
 simp only [data_app, whereL, hideL, if_neg (hS (by omega)), if_neg (hH (by omega)), List.append_assoc]
theorem line_ev (r : ROk d kd tn sc h) : Ev (fun k => policy_line.f k d kd tn sc h) ⟨(lineL d kd tn sc h).toArray⟩ := by
 unfold policy_line.f
 by_cases hd : d = true
 ·
  simp only [if_pos hd]
  refine line_j0 r _ _ (by decide) ?_
  rw [data_mk, lineL, headL, if_pos hd]
  simp
 simp only [if_neg hd]
 refine line_j0 r _ _ (by decide) ?_
 rw [data_mk, lineL, headL, if_neg hd]
 simp
theorem line_len (r : ROk d kd tn sc h) : (lineL d kd tn sc h).length ≤ 6000 := by
 have h1 := kindB_size kd; have h2 := r.ts; have hm := com_mat sc r.s8 r.sm; have hh := com_hide r
 have e1 : (headL d).length ≤ 6 := by unfold headL; split <;> decide
 have e2 : (whereL sc).length ≤ 4665 := by
  unfold whereL
  split
  · decide
  unfold matchL; simp only [List.length_cons, List.length_append, List.length_nil]; omega
 have e3 : (hideL h).length ≤ 1062 := by
  unfold hideL
  split
  · decide
  simp only [List.length_cons, List.length_append, List.length_nil]; omega
 rw [size_data] at h1 h2
 unfold lineL
 simp only [List.length_append, List.length_cons, List.length_nil]; omega
end
def rightR (x : S46) : Int := rightL x.f0 x.f1 x.f2 x.f3 x.f4
def lineR (x : S46) : List UInt8 := lineL x.f0 x.f1 x.f2 x.f3 x.f4
def prR : List S46 → Int → List UInt8 → ByteArray × Int × Int
  | [], _, acc => (⟨acc.toArray⟩, 0, 0)
  | x :: l, i, acc => if rightR x = 0 then prR l (i + 1) (acc ++ lineR x ++ [10]) else (⟨#[]⟩, rightR x, i)
theorem print_go : ∀ (l : List S46) (i : Int) (acc : List UInt8), l.length ≤ 32 → acc.length + l.length * 7000 ≤ 1000000 → Ev (fun k => policy_Print.go k l i acc) (prR l i acc)
 | [], i, acc, _, _ => Ev.const rfl
 | x :: l, i, acc, hl, ha => by
  rw [List.length_cons] at hl ha
  unfold policy_Print.go
  refine Ev.bind (right_ev x.f0 x.f1 x.f2 x.f3 x.f4) ?_
  rw [prR]
  show Ev _ (if rightL x.f0 x.f1 x.f2 x.f3 x.f4 = 0 then _ else _)
  by_cases h0 : rightL x.f0 x.f1 x.f2 x.f3 x.f4 = 0; rotate_left
  · simp only [if_neg h0]; exact Ev.const rfl
  simp only [if_pos h0]; have r := right_ok h0; have hn := line_len r
  refine Ev.bind (line_ev r) ?_
  simp only [size_mk, if_pos (show acc.length + (lineL x.f0 x.f1 x.f2 x.f3 x.f4).length < 140737488355000 by omega)]
  exact print_go l (i + 1) _ (by omega) (by simp only [List.length_append, lineR, List.length_cons, List.length_nil]; omega)
def printR (l : List S46) : ByteArray × Int × Int := if l.length > 32 then (⟨#[]⟩, 7, 0) else prR l 0 []
theorem print_ev (l : List S46) : Ev (fun k => policy_Print.f k l) (printR l) := by
 unfold policy_Print.f printR
 by_cases h : l.length > 32
 · simp only [if_pos h]; exact Ev.const rfl
 simp only [if_neg h]
 exact print_go l 0 [] (by omega) (by rw [List.length_nil]; omega)
end Go.Proofs.YtkedidjjhhjdbaaGreatDoor.Pr
end
section
set_option linter.unusedVariables false
set_option linter.unusedSimpArgs false
namespace Go.Proofs.YtkedidjjhhjdbaaGreatDoor.Pr
open Go.RowKit Go.Proofs.YtkedidjjhhjdbaaGreatDoorW.PrintWords Go.Proofs.YtkedidjjhhjdbaaGreatDoorW.PrintLast Go.Proofs.YtkedidjjhhjdbaaGreatDoorW.PrintMore
def B (l : List UInt8) : ByteArray := ⟨l.toArray⟩
theorem B_data (l : List UInt8) : (B l).data.toList = l := rfl
theorem B_toList (l : List UInt8) : (B l).toList = l := by rw [Lib.toList_data]; rfl
theorem B_size (l : List UInt8) : (B l).size = l.length := size_mk l
theorem B_eta (s : ByteArray) : s = B s.data.toList := bytes_eq rfl
theorem B_app (a b : List UInt8) : B a ++ B b = B (a ++ b) := bytes_eq (data_app _ _)
theorem B_take (l : List UInt8) (n : Nat) : (B l).extract 0 n = B (l.take n) := bytes_eq (Lib.extract_from_zero _ _)
theorem B_drop (l : List UInt8) (n : Nat) : (B l).extract n (B l).size = B (l.drop n) := bytes_eq (by rw [Lib.extract_to_end]; rfl)
theorem bt_B (l : List UInt8) (i : Nat) (h : i < l.length) : bt (B l) (i : Int) = ((l[i]'h).toNat : Int) := bt_nat (B l) i h
theorem pre_take (p l : List UInt8) : p.isPrefixOf l = (l.take p.length == p) := by
 induction p generalizing l with
 | nil => simp
 | cons c p ih =>
  cases l with
  | nil => simp [List.isPrefixOf]
  | cons b l =>
   rw [List.isPrefixOf, ih l, List.length_cons, List.take_succ_cons]; by_cases h : c = b
   · subst h; simp
   have t1 : (b == c) = false := by simp [Ne.symm h]
   have t2 : (c == b) = false := by simp [h]
   simp only [List.cons_beq_cons, t1, t2, Bool.false_and]
theorem hasPrefix_B (l p : List UInt8) (hl : l.length ≤ 9223372036854775807) : strings_HasPrefix.f (B l) (B p) = some (p.isPrefixOf l) := by
 unfold strings_HasPrefix.f stringslite_HasPrefix.f
 rw [B_size, B_size]; by_cases h : (l.length : Int) ≥ (p.length : Int)
 · rw [if_pos h, if_pos (by omega), if_pos (by omega), Option.bind_some, Int.toNat_natCast, B_take, B_toList, B_toList, pre_take]
 rw [if_neg h, Option.bind_some, pre_take]
 congr 1
 symm
 rw [beq_eq_false_iff_ne]; intro e
 have := congrArg List.length e
 rw [List.length_take] at this; omega
theorem lite_hasPrefix_B (l p : List UInt8) (hl : l.length ≤ 9223372036854775807) : stringslite_HasPrefix.f (B l) (B p) = some (p.isPrefixOf l) := by
 have := hasPrefix_B l p hl
 unfold strings_HasPrefix.f at this
 cases h : stringslite_HasPrefix.f (B l) (B p) with
 | none => rw [h] at this; cases this
 | some b => rw [h, Option.bind_some] at this; exact this
theorem pre_len {p l : List UInt8} (h : p.isPrefixOf l = true) : p.length ≤ l.length := by
 rw [pre_take, beq_iff_eq] at h
 have := congrArg List.length h
 rw [List.length_take] at this; omega
theorem cutPrefix_B (l p : List UInt8) (hl : l.length ≤ 9223372036854775807) : strings_CutPrefix.f (B l) (B p) = some (if p.isPrefixOf l = true then (B (l.drop p.length), true) else (B l, false)) := by
 unfold strings_CutPrefix.f stringslite_CutPrefix.f
 rw [lite_hasPrefix_B l p hl, Option.bind_some]; by_cases h : p.isPrefixOf l = true; rotate_left
 · rw [if_neg h, if_neg h]; rfl
 have := pre_len h
 rw [if_pos h, if_pos h, B_size, if_pos (by omega), if_pos (by rw [B_size]; omega), Int.toNat_natCast, B_drop]
 rfl
theorem trimPrefix_B (l p : List UInt8) (hl : l.length ≤ 9223372036854775807) : strings_TrimPrefix.f (B l) (B p) = some (B (if p.isPrefixOf l = true then l.drop p.length else l)) := by
 unfold strings_TrimPrefix.f stringslite_TrimPrefix.f
 rw [lite_hasPrefix_B l p hl, Option.bind_some]; by_cases h : p.isPrefixOf l = true; rotate_left
 · rw [if_neg h, if_neg h]; rfl
 have := pre_len h
 rw [if_pos h, if_pos h, B_size, if_pos (by omega), if_pos (by rw [B_size]; omega), Int.toNat_natCast, B_drop]
 rfl
theorem pre_app (p l : List UInt8) : p.isPrefixOf (p ++ l) = true := by rw [pre_take, List.take_left]; simp
theorem pre_ne {c b : UInt8} (p l : List UInt8) (h : c ≠ b) : (c :: p).isPrefixOf (b :: l) = false := by simp [List.isPrefixOf, h]
theorem index_at (c : UInt8) (t b : List UInt8) : ∀ a : List UInt8, c ∉ a → Lib.index (a ++ (c :: (t ++ b))) (c :: t) = (a.length : Int)
 | [], _ => by
  show Lib.index (c :: (t ++ b)) (c :: t) = _
  rw [Lib.index, if_pos (by rw [← List.cons_append]; exact pre_app _ _)]
  rfl
 | x :: a, h => by
  have hx : c ≠ x := fun e => h (by rw [e]; exact List.mem_cons_self ..)
  have ih := index_at c t b a (fun e => h (List.mem_cons_of_mem _ e))
  rw [List.cons_append, Lib.index, if_neg (by rw [pre_ne _ _ hx]; simp), ih, if_neg (by first | (simp; done) | (simp; omega)), List.length_cons]
  omega
theorem index_no (c : UInt8) (t : List UInt8) : ∀ a : List UInt8, c ∉ a → Lib.index a (c :: t) = -1
 | [], _ => rfl
 | x :: a, h => by
  have hx : c ≠ x := fun e => h (by rw [e]; exact List.mem_cons_self ..)
  have ih := index_no c t a (fun e => h (List.mem_cons_of_mem _ e))
  rw [Lib.index, if_neg (by rw [pre_ne _ _ hx]; simp), ih]
  rfl
theorem cut_at (a b : List UInt8) (h : 32 ∉ a) : Lib.cut (a ++ (32 :: b)) [32] = (a, b, true) := by
 have e := index_at 32 [] b a h; rw [List.nil_append] at e
 unfold Lib.cut
 rw [e, if_pos (by omega), Int.toNat_natCast, List.take_left]
 have : (a ++ 32 :: b).drop (a.length + [32].length) = b := by
  rw [show a ++ 32 :: b = (a ++ [32]) ++ b by simp, show a.length + [32].length = (a ++ ([32] : List UInt8)).length by simp, List.drop_left]
 exact congrArg (fun z => (a, z, true)) this
theorem cut_no (a : List UInt8) (h : 32 ∉ a) : Lib.cut a [32] = (a, [], false) := by
 unfold Lib.cut
 rw [index_no 32 [] a h, if_neg (by omega)]
theorem next_at (a b : List UInt8) (h : 32 ∉ a) : nextW (B (a ++ (32 :: b))) = B a := by unfold nextW; rw [B_data, cut_at a b h]; rfl
theorem rest_at (a b : List UInt8) (h : 32 ∉ a) : restW (B (a ++ (32 :: b))) = B b := by unfold restW; rw [B_data, cut_at a b h]; rfl
theorem next_no (a : List UInt8) (h : 32 ∉ a) : nextW (B a) = B a := by unfold nextW; rw [B_data, cut_no a h]; rfl
theorem rest_no (a : List UInt8) (h : 32 ∉ a) : restW (B a) = B [] := by unfold restW; rw [B_data, cut_no a h]; rfl
def joinW (sep : List UInt8) : List (List UInt8) → List UInt8
  | [] => []
  | [x] => x
  | x :: y :: r => x ++ (sep ++ joinW sep (y :: r))
theorem comL_joinW : ∀ l : List (List UInt8), comL l = joinW [44, 32] l
 | [] => rfl
 | [x] => rfl
 | x :: y :: r => by rw [comL, joinW, comL_joinW (y :: r)]
theorem split_join (c : UInt8) (t : List UInt8) : ∀ (x : List UInt8) (r : List (List UInt8)), (∀ y ∈ x :: r, c ∉ y) →
  Lib.splitB (B (c :: t)) 0 (Lib.countB (B (joinW (c :: t) (x :: r))) (B (c :: t))) (B (joinW (c :: t) (x :: r))) = (x :: r).map B
 | x, [], h => by
  have hi : Lib.indexB (B x) (B (c :: t)) = -1 := index_no c t x (h x (List.mem_cons_self ..))
  show Lib.splitB (B (c :: t)) 0 (Lib.countB (B x) (B (c :: t))) (B x) = [B x]
  rw [Lib.countB_miss _ _ hi]; rfl
 | x, y :: r, h => by
  have hx := h x (List.mem_cons_self ..)
  have ih := split_join c t y r (fun z hz => h z (List.mem_cons_of_mem _ hz))
  have e : joinW (c :: t) (x :: y :: r) = x ++ (c :: (t ++ joinW (c :: t) (y :: r))) := by rw [joinW]; simp
  have hi : Lib.indexB (B (joinW (c :: t) (x :: y :: r))) (B (c :: t)) = ((x.length : Nat) : Int) := by
   rw [e]; exact index_at c t _ x hx
  have hd : (joinW (c :: t) (x :: y :: r)).drop (x.length + (c :: t).length) = joinW (c :: t) (y :: r) := by
   rw [joinW, ← List.append_assoc, show x.length + (c :: t).length = (x ++ (c :: t)).length by simp, List.drop_left]
  have ht : (joinW (c :: t) (x :: y :: r)).take x.length = x := by rw [joinW, List.take_left]
  have hex : (B (joinW (c :: t) (x :: y :: r))).extract (x.length + (B (c :: t)).size) (B (joinW (c :: t) (x :: y :: r))).size = B (joinW (c :: t) (y :: r)) := by
   rw [B_drop, B_size, hd]
  rw [Lib.countB_hit _ _ x.length (by rw [B_size]; simp) hi, Nat.add_comm, Lib.splitB_hit _ _ _ _ x.length hi, hex, ih, Nat.add_zero, B_take, ht]
  rfl
theorem split_com (h : List ByteArray) (hne : h ≠ []) (hk : ∀ x ∈ h, 44 ∉ x.data.toList) (hs : (comL (h.map (·.data.toList))).length < 4294967281) :
  strings_Split.f (B (comL (h.map (·.data.toList)))) (⟨#[44, 32]⟩ : ByteArray) = some h := by
 cases h with
 | nil => exact absurd rfl hne
 | cons x r =>
  unfold strings_Split.f
  rw [if_pos ⟨by rw [B_size]; exact hs, by decide⟩, comL_joinW]
  have := split_join 44 [32] x.data.toList (r.map (·.data.toList)) (fun y hy => by
   rw [← List.map_cons (f := fun x : ByteArray => x.data.toList)] at hy
   obtain ⟨z, hz, rfl⟩ := List.mem_map.1 hy
   exact hk z hz)
  rw [← List.map_cons (f := fun x : ByteArray => x.data.toList)] at this
  have e2 : ((x :: r).map (fun x : ByteArray => x.data.toList)).map B = x :: r := by
   rw [List.map_map]
   conv => rhs; rw [← List.map_id (x :: r)]
   exact List.map_congr_left (fun z _ => (B_eta z).symm)
  rw [e2] at this; exact congrArg some this
theorem split_lines (l : List (List UInt8)) (hk : ∀ x ∈ l, 10 ∉ x) (hs : (l.flatMap (· ++ [10])).length < 4294967281) :
  strings_Split.f (B (l.flatMap (· ++ [10]))) (⟨#[10]⟩ : ByteArray) = some (l.map B ++ [B []]) := by
 have e : ∀ l : List (List UInt8), l.flatMap (· ++ [10]) = joinW [10] (l ++ [[]]) := by
  intro l
  induction l with
  | nil => rfl
  | cons x r ih =>
   rw [List.flatMap_cons, ih]
   cases r with
   | nil => simp [joinW]
   | cons y r => show _ = x ++ ([10] ++ _); simp
 unfold strings_Split.f
 rw [if_pos ⟨by rw [B_size]; exact hs, by decide⟩, e l]
 cases l with
 | nil => exact congrArg some (split_join 10 [] [] [] (fun y hy => by rw [List.mem_singleton.1 hy]; simp))
 | cons x r =>
  have := split_join 10 [] x (r ++ [[]]) (fun y hy => by
   rw [← List.cons_append] at hy
   rcases List.mem_append.1 hy with hy | hy
   · exact hk y hy
   rw [List.mem_singleton.1 hy]; simp)
  rw [← List.cons_append] at this; rw [List.map_append] at this; exact congrArg some this
def cutW : ByteArray := ⟨#[97, 98, 99, 100, 101, 102, 103, 104, 105, 106, 107, 108, 109, 110, 111, 112, 113, 114, 115, 116, 117, 118, 119, 120, 121, 122, 65, 66, 67, 68, 69, 70, 71, 72, 73, 74, 75, 76, 77, 78, 79, 80, 81, 82, 83, 84, 85, 86, 87, 88, 89, 90, 48, 49, 50, 51, 52, 53, 54, 55, 56, 57, 95, 46]⟩
def wordB (l : List UInt8) : Bool := match l with
  | [] => false
  | b :: _ => !(decide (48 ≤ b.toNat) && decide (b.toNat ≤ 57)) && !(b == 46) && l.all (fun b => cutW.data.toList.contains b)
theorem word_B (l : List UInt8) (hl : l.length ≤ 9223372036854775807) : policy_word.f (B l) = some (wordB l) := by
 unfold policy_word.f
 rw [B_toList]
 cases l with
 | nil => rfl
 | cons b l =>
  rw [if_neg (by simp), if_pos (by rw [B_size, List.length_cons]; omega)]
  have hb : bt (B (b :: l)) 0 = (b.toNat : Int) := bt_B (b :: l) 0 (by simp)
  have hf : strings_Trim.f (B (b :: l)) cutW = some ⟨(Lib.trimS (b :: l) cutW.data.toList).toArray⟩ := by
   unfold strings_Trim.f
   rw [if_pos ⟨by rw [B_size]; exact hl, by decide, by decide⟩]
   rfl
  have ht : ((⟨(Lib.trimS (b :: l) cutW.data.toList).toArray⟩ : ByteArray).toList == ([] : List UInt8)) = (b :: l).all (fun b => cutW.data.toList.contains b) := by
   rw [Bool.eq_iff_iff, beq_iff_eq, Lib.toList_data]; exact trimS_nil _ _
  have h46 : ((b.toNat : Int) = 46) ↔ b = 46 := by
   constructor
   rotate_left
   · rintro rfl; rfl
   intro e; exact toNat_inj (n := 46) (by omega) e
  show (if bt (B (b :: l)) 0 ≥ 48 then (if bt (B (b :: l)) 0 ≤ 57 then some false else (if bt (B (b :: l)) 0 = 46 then some false else ((strings_Trim.f (B (b :: l)) cutW).bind fun t158 => some (t158.toList == ([] : List UInt8))))) else (if bt (B (b :: l)) 0 = 46 then some false else ((strings_Trim.f (B (b :: l)) cutW).bind fun t159 => some (t159.toList == ([] : List UInt8))))) = _
  rw [hb, hf, Option.bind_some, ht]
  unfold wordB
  by_cases h1 : (b.toNat : Int) ≥ 48; rotate_left
  ·
   rw [if_neg h1]
   have e1 : decide (48 ≤ b.toNat) = false := decide_eq_false (by omega)
   by_cases h3 : (b.toNat : Int) = 46
   ·
    rw [if_pos h3]
    have e3 : (b == 46) = true := beq_iff_eq.2 (h46.1 h3)
    simp only [e3, Bool.not_true, Bool.and_false, Bool.false_and]
   rw [if_neg h3]
   have e3 : (b == 46) = false := beq_eq_false_iff_ne.2 (fun e => h3 (h46.2 e))
   simp only [e1, e3, Bool.false_and, Bool.not_false, Bool.true_and]
  rw [if_pos h1]; by_cases h2 : (b.toNat : Int) ≤ 57
  ·
   rw [if_pos h2]
   have e1 : decide (48 ≤ b.toNat) = true := decide_eq_true (by omega)
   have e2 : decide (b.toNat ≤ 57) = true := decide_eq_true (by omega)
   simp [e1, e2]
  rw [if_neg h2]
  have e2 : decide (b.toNat ≤ 57) = false := decide_eq_false (by omega)
  by_cases h3 : (b.toNat : Int) = 46
  · omega
  rw [if_neg h3]
  have e3 : (b == 46) = false := beq_eq_false_iff_ne.2 (fun e => h3 (h46.2 e))
  simp only [e2, e3, Bool.and_false, Bool.not_false, Bool.true_and]
end Go.Proofs.YtkedidjjhhjdbaaGreatDoor.Pr
end
