import Derived.Test.YtnfanpjfhdlddaaGreatDoorProg
import Derived.Below
import Derived.Deep.Draws
import Derived.Deep.AppendLies
import Derived.Maps.AppendAt
import Derived.OwnWalk
import Derived.Laws.BytesArg
import Derived.Laws.MakeOwn
import Derived.Laws.OwnMore
import Derived.Deep.OwnRows
import Derived.Tactics
import Derived.Lib.ConvBytes
import Derived.Laws.Slices
import Derived.WalkKit
import Derived.KernelRfl
import Derived.RowKit3
import Derived.Deep.LoopGhost
import Derived.Deep.QuietTactic
import Derived.BigQuiet
import Derived.WideLaws
import Derived.Deep.DeepCutAuto
import Derived.Deep.CutBlock
import Derived.Deep.RegionHeld3
import Derived.Laws.Rows
import Derived.Lib.AppendStr
import Derived.ArgAppend
import Derived.Laws.IdiomCopy
import Derived.OrdersHeld
import Derived.Laws.BitsLemmas
import Derived.RowKit
import Derived.Test.YtnfanpjfhdlddaaGreatDoorQFits3
import Derived.Test.YtnfanpjfhdlddaaGreatDoorQFits1
import Derived.Test.YtnfanpjfhdlddaaGreatDoorQFits2
import Derived.Test.YtnfanpjfhdlddaaGreatDoorQFits4
import Derived.Sort.Row
import Derived.Shelf.GgSortFunc.RowK
import Derived.Shelf.GgSortFunc.InsertionK
import Derived.Shelf.Small.Strs
import Derived.Shelf.Strings.Search3
import Derived.Shelf.Unicode.ValidAny
import Derived.Test.YtnfanpjfhdlddaaGreatDoorRows
import Derived.Deep.Slices
import Derived.Deep.Fields
import Derived.ChangeSame
import Derived.ChangeArms
import Derived.Lib.LaidU8T
import Derived.HandedShaped
import Derived.Handed
import Derived.Shelf.Vars
import Derived.SizedLaws
import Derived.Lib.ValidLaws
import Derived.Lib.SliceRun
import Derived.Sort.AssemblyPlain
import Derived.Shelf.SlSortCmp.WholeK
import Derived.Shelf.SlGeneric
import Derived.Shelf.SlicesE.Clone
import Derived.Ground.SlgnProg
import Derived.Ground.SlsfProg
import Derived.Shelf.SlSortCmp.NoneTotal
section
namespace Go.Proofs.YtnfanpjfhdlddaaGreatDoor.Pr
open Go.RowKit Go.Proofs.YtnfanpjfhdlddaaGreatDoorW.PrintWords Go.Proofs.YtnfanpjfhdlddaaGreatDoorW.PrintLast Go.Proofs.YtnfanpjfhdlddaaGreatDoorW.PrintMore
attribute [local go_sem] max2_int min2_int max_two min_two max_three min_three max_four min_four strGtr strLeq strGeq
set_option linter.unusedVariables false
set_option linter.unusedSimpArgs false
def errW : Option Int → Value
  | none => .nilIface
  | some c => .iface 0 (.int .i64 c)
theorem errW_none : errW none = .nilIface := rfl
theorem errW_some (c : Int) : errW (some c) = .iface 0 (.int .i64 c) := rfl
theorem info45 : (Tryz.prog.info? 45).map (fun i => (i.zero, i.size, i.bytes)) = some (some (.agg #[(.string ⟨#[]⟩), (.string ⟨#[]⟩)]), 2, 32) := by kernel_rfl
theorem info54 : (Tryz.prog.info? 54).map (fun i => (i.zero, i.size, i.bytes)) = some (some (.agg #[(.int .i64 0), (.string ⟨#[]⟩), (.string ⟨#[]⟩)]), 3, 40) := by kernel_rfl
structure S45 where
  f0 : ByteArray
  f1 : ByteArray
def z45 : S45 := ⟨(⟨#[]⟩ : ByteArray), (⟨#[]⟩ : ByteArray)⟩
def k45 : Kd S45 := Kd.iso (Kd.pair Kd.string Kd.string) (fun x : S45 => (x.f0, x.f1))
theorem k45_open {w : World} {x : S45} {cs : List Value} (h : k45.K w x cs) : cs = [.string x.f0, .string x.f1] := by
 obtain ⟨_, _, rfl, rfl, rfl⟩ := h
 exact rfl
theorem k45_openM {w : World} {base : Nat} {ok : Nat → Prop} {x : S45} {cs : List Value} (h : k45.M w base ok x cs) : cs = [.string x.f0, .string x.f1] := by
 obtain ⟨_, _, rfl, rfl, rfl⟩ := h
 exact rfl
theorem k45_mk (w : World) (x : S45)  : k45.K w x [.string x.f0, .string x.f1] := ⟨[.string x.f0], [.string x.f1], rfl, rfl, rfl⟩
theorem k45_mkM (w : World) (base : Nat) (ok : Nat → Prop) (x : S45)  : k45.M w base ok x [.string x.f0, .string x.f1] := ⟨[.string x.f0], [.string x.f1], rfl, rfl, rfl⟩
def rd_T45 (xs : List S45) (i : Int) : S45 := xs.getD i.toNat z45
theorem at_T45 {w : World} {A : Option Addr} {n : Nat} {xs : List S45} (h : Kd.C k45 w A n xs) (i : Int) (h0 : 0 ≤ i) (h1 : i < n) : ∃ ad , A = some ad ∧ w.cell? (ad.add (i.toNat * 2)) = some (.string (rd_T45 xs i).f0) ∧ w.cell? ⟨(ad.add (i.toNat * 2)).block, (ad.add (i.toNat * 2)).off + 1, none⟩ = some (.string (rd_T45 xs i).f1) := by
 obtain ⟨ad, c, e, _, hK, hc0⟩ := Kd.C_get h z45 i h0 h1
 have hc : ∀ j u, c[j]? = some u → w.cell? (ad.add (i.toNat * 2 + j)) = some u := hc0
 obtain rfl := k45_open hK
 exact ⟨ad, e, hc 0 _ rfl, by rw [← add_field _ _ 1 (by omega)]; exact hc 1 _ rfl⟩
structure S54 where
  f0 : Int
  f1 : ByteArray
  f2 : ByteArray
def z54 : S54 := ⟨(0 : Int), (⟨#[]⟩ : ByteArray), (⟨#[]⟩ : ByteArray)⟩
def k54 : Kd S54 := Kd.iso (Kd.pair (Kd.int .i64) (Kd.pair Kd.string Kd.string)) (fun x : S54 => (x.f0, x.f1, x.f2))
theorem k54_open {w : World} {x : S54} {cs : List Value} (h : k54.K w x cs) : cs = [.int .i64 x.f0, .string x.f1, .string x.f2] := by
 obtain ⟨_, _, rfl, rfl, ⟨_, _, rfl, rfl, rfl⟩⟩ := h
 exact rfl
theorem k54_openM {w : World} {base : Nat} {ok : Nat → Prop} {x : S54} {cs : List Value} (h : k54.M w base ok x cs) : cs = [.int .i64 x.f0, .string x.f1, .string x.f2] := by
 obtain ⟨_, _, rfl, rfl, ⟨_, _, rfl, rfl, rfl⟩⟩ := h
 exact rfl
theorem k54_mk (w : World) (x : S54)  : k54.K w x [.int .i64 x.f0, .string x.f1, .string x.f2] := ⟨[.int .i64 x.f0], [.string x.f1, .string x.f2], rfl, rfl, ⟨[.string x.f1], [.string x.f2], rfl, rfl, rfl⟩⟩
theorem k54_mkM (w : World) (base : Nat) (ok : Nat → Prop) (x : S54)  : k54.M w base ok x [.int .i64 x.f0, .string x.f1, .string x.f2] := ⟨[.int .i64 x.f0], [.string x.f1, .string x.f2], rfl, rfl, ⟨[.string x.f1], [.string x.f2], rfl, rfl, rfl⟩⟩
def rd_T54 (xs : List S54) (i : Int) : S54 := xs.getD i.toNat z54
theorem at_T54 {w : World} {A : Option Addr} {n : Nat} {xs : List S54} (h : Kd.C k54 w A n xs) (i : Int) (h0 : 0 ≤ i) (h1 : i < n) : ∃ ad , A = some ad ∧ w.cell? (ad.add (i.toNat * 3)) = some (.int .i64 (rd_T54 xs i).f0) ∧ w.cell? ⟨(ad.add (i.toNat * 3)).block, (ad.add (i.toNat * 3)).off + 1, none⟩ = some (.string (rd_T54 xs i).f1) ∧ w.cell? ⟨(ad.add (i.toNat * 3)).block, (ad.add (i.toNat * 3)).off + 2, none⟩ = some (.string (rd_T54 xs i).f2) := by
 obtain ⟨ad, c, e, _, hK, hc0⟩ := Kd.C_get h z54 i h0 h1
 have hc : ∀ j u, c[j]? = some u → w.cell? (ad.add (i.toNat * 3 + j)) = some u := hc0
 obtain rfl := k54_open hK
 exact ⟨ad, e, hc 0 _ rfl, by rw [← add_field _ _ 1 (by omega)]; exact hc 1 _ rfl, by rw [← add_field _ _ 2 (by omega)]; exact hc 2 _ rfl⟩
end Go.Proofs.YtnfanpjfhdlddaaGreatDoor.Pr
end
section
set_option linter.unusedVariables false
set_option linter.unusedSimpArgs false
namespace Go.Proofs.YtnfanpjfhdlddaaGreatDoor.Pr
open Go.RowKit Go.Proofs.YtnfanpjfhdlddaaGreatDoorW.PrintWords Go.Proofs.YtnfanpjfhdlddaaGreatDoorW.PrintLast Go.Proofs.YtnfanpjfhdlddaaGreatDoorW.PrintMore
structure Flat {α : Type} (d : Kd α) (enc : α → List Value) : Prop where
  K : ∀ {w x cs}, d.K w x cs → cs = enc x
  K' : ∀ w x, d.K w x (enc x)
  M : ∀ {w base ok x cs}, d.M w base ok x cs → cs = enc x
  M' : ∀ w base ok x, d.M w base ok x (enc x)
section
variable {α : Type} {d : Kd α} {enc : α → List Value}
theorem Flat.len (F : Flat d enc) (x : α) : (enc x).length = d.sz := d.K_len (F.K' default x)
theorem Flat.one (F : Flat d enc) (x : α) : ∀ u ∈ enc x, u.oneCell' = true := d.K_one (F.K' default x)
theorem flat_len (k : Nat) (hk : ∀ x, (enc x).length = k) : ∀ xs : List α, (xs.flatMap enc).length = xs.length * k
 | [] => by simp
 | x :: r => by rw [List.flatMap_cons, List.length_append, flat_len k hk r, hk]; simp [Nat.add_mul, Nat.add_comm]
theorem flat_seg (k : Nat) (hk : ∀ x, (enc x).length = k) : ∀ (xs : List α) (j : Nat) (p : α), xs[j]? = some p → ((xs.flatMap enc).drop (j * k)).take k = enc p
 | [], j, p, h => by simp at h
 | x :: r, 0, p, h => by
  have : x = p := by simpa using h
  subst this
  rw [List.flatMap_cons, Nat.zero_mul, List.drop_zero, List.take_append_of_le_length (by rw [hk]; exact Nat.le_refl _), List.take_of_length_le (by rw [hk]; exact Nat.le_refl _)]
 | x :: r, j + 1, p, h => by
  have h' : r[j]? = some p := by simpa using h
  rw [List.flatMap_cons, Nat.add_mul, Nat.one_mul, Nat.add_comm, List.drop_append, hk, List.drop_of_length_le (by rw [hk]; omega), List.nil_append, show k + j * k - k = j * k by omega]
  exact flat_seg k hk r j p h'
theorem flat_get (k : Nat) (hk : ∀ x, (enc x).length = k) (xs : List α) (j i : Nat) (p : α) (hj : xs[j]? = some p) (hi : i < k) : (xs.flatMap enc)[j * k + i]? = (enc p)[i]? := by
 have h := flat_seg k hk xs j p hj
 rw [← h, List.getElem?_take, if_pos hi, List.getElem?_drop]
theorem flat_split (k : Nat) (hk : ∀ x, (enc x).length = k) (xs : List α) (t : Nat) (u : Value) (h : (xs.flatMap enc)[t]? = some u) : ∃ j i p, t = j * k + i ∧ i < k ∧ xs[j]? = some p ∧ (enc p)[i]? = some u := by
  have hl := (List.getElem?_eq_some_iff.1 h).1
  rw [flat_len k hk] at hl
  have hk0 : 0 < k := by rcases Nat.eq_zero_or_pos k with h0 | h0
                         · subst h0; simp at hl
                         · exact h0
  have hj : t / k < xs.length := by rw [Nat.div_lt_iff_lt_mul hk0]; exact hl
  refine ⟨t / k, t % k, xs[t / k], by rw [Nat.mul_comm]; exact (Nat.div_add_mod t k).symm, Nat.mod_lt _ hk0, List.getElem?_eq_getElem hj, ?_⟩
  rw [← flat_get k hk xs (t / k) (t % k) _ (List.getElem?_eq_getElem hj) (Nat.mod_lt _ hk0), show t / k * k + t % k = t by rw [Nat.mul_comm]; exact Nat.div_add_mod t k]
  exact h
theorem flat_of_segs (k : Nat) (hk : ∀ x, (enc x).length = k) : ∀ (xs : List α) (cs : List Value), cs.length = xs.length * k → (∀ j p, xs[j]? = some p → (cs.drop (j * k)).take k = enc p) → cs = xs.flatMap enc
 | [], cs, h, _ => by simpa using h
 | x :: r, cs, h, hs => by
  have h0 := hs 0 x rfl
  rw [Nat.zero_mul, List.drop_zero] at h0
  rw [List.flatMap_cons, ← h0, ← flat_of_segs k hk r (cs.drop k) (by rw [List.length_drop, h]; simp [Nat.add_mul]) (fun j p hj => by
   have := hs (j + 1) p (by simpa using hj)
   rw [List.drop_drop]
   rwa [Nat.add_mul, Nat.one_mul, Nat.add_comm] at this), List.take_append_drop]
theorem Flat.reps (F : Flat d enc) {R : α → List Value → Prop} (hR : ∀ {x cs}, R x cs → cs = enc x) {xs : List α} {cs : List Value} (h : Reps R d.sz xs cs) : cs = xs.flatMap enc :=
 flat_of_segs d.sz F.len xs cs h.1 (fun j p hj => hR (h.2 j p hj))
theorem Flat.reps' (F : Flat d enc) {R : α → List Value → Prop} (hR : ∀ x, R x (enc x)) (xs : List α) : Reps R d.sz xs (xs.flatMap enc) :=
 ⟨flat_len d.sz F.len xs, fun j p hj => by rw [flat_seg d.sz F.len xs j p hj]; exact hR p⟩
theorem Flat.C (F : Flat d enc) {w : World} {A : Option Addr} {n : Nat} {xs : List α} (h : d.C w A n xs) : xs.length = n ∧ n ≤ 9223372036854775807 ∧ (0 < n → ∃ ad, A = some ad ∧ ∀ j u, (xs.flatMap enc)[j]? = some u → w.cell? (ad.add j) = some u) := by
 refine ⟨h.1, h.2.1, fun hn => ?_⟩
 obtain ⟨ad, e, hc⟩ := h.2.2 hn
 refine ⟨ad, e, fun t u hu => ?_⟩
 obtain ⟨j, i, p, rfl, hi, hj, hp⟩ := flat_split d.sz F.len xs t u hu
 obtain ⟨c, hs, hr, hcell⟩ := hc j p hj
 obtain rfl := F.K hr
 exact hcell i u hp
theorem Flat.C' (F : Flat d enc) {w : World} {A : Option Addr} {xs : List α} (hm : xs.length ≤ 9223372036854775807) (h : 0 < xs.length → ∃ ad, A = some ad ∧ ∀ j u, (xs.flatMap enc)[j]? = some u → w.cell? (ad.add j) = some u) : d.C w A xs.length xs := by
 refine ⟨rfl, hm, fun hn => ?_⟩
 obtain ⟨ad, e, hc⟩ := h hn
 refine ⟨ad, e, fun j p hj => ⟨enc p, F.len p, F.K' w p, fun i u hu => hc _ u ?_⟩⟩
 have hi := (List.getElem?_eq_some_iff.1 hu).1
 rw [F.len] at hi
 rw [flat_get d.sz F.len xs j i p hj hi]
 exact hu
theorem Flat.R (F : Flat d enc) {e : Nat} {w : World} {base : Nat} {ok : Nat → Prop} {v : Value} {xs : List α} (h : d.R e w base ok v xs) : (∀ k, v.ownBlock = some k → ok k) ∧ w.ownsRow base e d.sz v xs.length (xs.flatMap enc) := by
 obtain ⟨h0, inner, ho, hr⟩ := h
 obtain rfl := F.reps (R := _) (fun hp => F.M hp) hr
 exact ⟨h0, ho⟩
theorem Flat.R' (F : Flat d enc) {e : Nat} {w : World} {base : Nat} {ok : Nat → Prop} {v : Value} {xs : List α} (h0 : ∀ k, v.ownBlock = some k → ok k) (ho : w.ownsRow base e d.sz v xs.length (xs.flatMap enc)) : d.R e w base ok v xs :=
 ⟨h0, _, ho, F.reps' (fun x => F.M' w base _ x) xs⟩
end
theorem flatK_eq {α : Type} [Inhabited α] (enc : α → List Value) (k : Nat) (hk : ∀ x, (enc x).length = k) (xs : List α) : (Sort.flatK enc k xs.toArray).toList = xs.flatMap enc := by
  apply List.ext_getElem?
  intro t
  by_cases ht : t < xs.length * k
  · have hk0 : 0 < k := by rcases Nat.eq_zero_or_pos k with h0 | h0
                           · subst h0; simp at ht
                           · exact h0
    have hj : t / k < xs.length := by rw [Nat.div_lt_iff_lt_mul hk0]; exact ht
    have hi := Nat.mod_lt t hk0
    have e1 : (xs.flatMap enc)[t]? = (enc xs[t / k])[t % k]? := by
      rw [← flat_get k hk xs (t / k) (t % k) _ (List.getElem?_eq_getElem hj) hi, show t / k * k + t % k = t by rw [Nat.mul_comm]; exact Nat.div_add_mod t k]
    have hs : t < (Sort.flatK enc k xs.toArray).size := by simpa using ht
    have hlen : t % k < (enc xs[t / k]).length := by rw [hk]; exact hi
    have e0 : xs.toArray[t / k]! = xs[t / k] := by rw [getElem!_pos xs.toArray (t / k) (by simpa using hj)]; simp
    have e2 := Sort.get_flatK enc k xs.toArray t (by simpa using ht)
    rw [e0, getElem!_pos (Sort.flatK enc k xs.toArray) t hs, getElem!_pos (enc xs[t / k]) (t % k) hlen] at e2
    rw [e1, List.getElem?_eq_getElem hlen, List.getElem?_eq_getElem (by simpa using ht), Array.getElem_toList, e2]
  · rw [List.getElem?_eq_none (by simp; omega), List.getElem?_eq_none (by rw [flat_len k hk]; omega)]
end Go.Proofs.YtnfanpjfhdlddaaGreatDoor.Pr
end
section
set_option linter.unusedVariables false
set_option linter.unusedSimpArgs false
namespace Go.Proofs.YtnfanpjfhdlddaaGreatDoor.Pr
open Go.RowKit Go.Proofs.YtnfanpjfhdlddaaGreatDoorW.PrintWords Go.Proofs.YtnfanpjfhdlddaaGreatDoorW.PrintLast Go.Proofs.YtnfanpjfhdlddaaGreatDoorW.PrintMore
def enc45 (x : S45) : List Value := [.string x.f0, .string x.f1]
def enc54 (x : S54) : List Value := [.int .i64 x.f0, .string x.f1, .string x.f2]
theorem flat45 : Flat k45 enc45 := ⟨fun h => k45_open h, fun w x => k45_mk w x, fun h => k45_openM h, fun w b ok x => k45_mkM w b ok x⟩
theorem flat54 : Flat k54 enc54 := ⟨fun h => k54_open h, fun w x => k54_mk w x, fun h => k54_openM h, fun w b ok x => k54_mkM w b ok x⟩
instance : Inhabited S45 := ⟨z45⟩
instance : Inhabited S54 := ⟨z54⟩
end Go.Proofs.YtnfanpjfhdlddaaGreatDoor.Pr
end
section
namespace Go.Proofs
open Go.Shelf
def Tryz.lays106_ren : Go.Shelf.Ren := ⟨fun | 106 => 34 | 213 => 55 | 265 => 77 | n => n, fun | 9 => 9 | 3 => 3 | n => n, fun | n => n⟩
theorem Tryz.lays106 : Go.Proofs.Lays.n106 Tryz.prog Tryz.lays106_ren := {
 mixed := by kernel_rfl
 f106 := Tryz.func34.trans (congrArg some (by kernel_rfl))
 f213 := Tryz.func55.trans (congrArg some (by kernel_rfl))
 f265 := Tryz.func77.trans (congrArg some (by kernel_rfl))
 t3 := Tryz.underlying3
 a3 := Tryz.isAgg3
 z3 := Tryz.sizeOf3
 v3 := Tryz.zeroValue3
 t9 := Tryz.underlying9
 a9 := Tryz.isAgg9
 z9 := Tryz.sizeOf9
 v9 := Tryz.zeroValue9 }
open Go.RowKit in
theorem Tryz.strings_Compare (a b : ByteArray) (w : World) :
  Calls Tryz.prog 34 #[.string a, .string b] w fun e w' => e = .returned (.int .i64 (Lib.compareBytes a.data.toList b.data.toList)) ∧ w' = w := Any.strings_Compare Tryz.lays106 a b w
def Tryz.lays196_ren : Go.Shelf.Ren := ⟨fun | 196 => 56 | 259 => 78 | n => n, fun | 9 => 9 | 4 => 4 | 3 => 3 | 5 => 5 | 12 => 12 | 119 => 97 | 0 => 0 | 46 => 74 | 139 => 100 | 138 => 99 | 53 => 95 | n => n, fun | 3 => 1 | 4 => 2 | n => n⟩
theorem Tryz.lays196 : Go.Proofs.Lays.n196 Tryz.prog Tryz.lays196_ren := {
 mixed := by kernel_rfl
 f196 := Tryz.func56.trans (congrArg some (by kernel_rfl))
 f259 := Tryz.func78.trans (congrArg some (by kernel_rfl))
 t0 := Tryz.underlying0
 a0 := Tryz.isAgg0
 z0 := Tryz.sizeOf0
 v0 := Tryz.zeroValue0
 t3 := Tryz.underlying3
 a3 := Tryz.isAgg3
 z3 := Tryz.sizeOf3
 v3 := Tryz.zeroValue3
 t4 := Tryz.underlying4
 a4 := Tryz.isAgg4
 z4 := Tryz.sizeOf4
 v4 := Tryz.zeroValue4
 t5 := Tryz.underlying5
 a5 := Tryz.isAgg5
 z5 := Tryz.sizeOf5
 v5 := Tryz.zeroValue5
 t9 := Tryz.underlying9
 a9 := Tryz.isAgg9
 z9 := Tryz.sizeOf9
 v9 := Tryz.zeroValue9
 t12 := Tryz.underlying12
 a12 := Tryz.isAgg12
 z12 := Tryz.sizeOf12
 v12 := Tryz.zeroValue12
 t46 := Tryz.underlying74
 a46 := Tryz.isAgg74
 z46 := Tryz.sizeOf74
 v46 := Tryz.zeroValue74
 t53 := Tryz.underlying95
 a53 := Tryz.isAgg95
 z53 := Tryz.sizeOf95
 v53 := Tryz.zeroValue95
 t119 := Tryz.underlying97
 a119 := Tryz.isAgg97
 z119 := Tryz.sizeOf97
 t138 := Tryz.underlying99
 a138 := Tryz.isAgg99
 z138 := Tryz.sizeOf99
 v138 := Tryz.zeroValue99
 t139 := Tryz.underlying100
 a139 := Tryz.isAgg100
 z139 := Tryz.sizeOf100
 v139 := Tryz.zeroValue100
 g3 := by kernel_rfl
 g4 := by kernel_rfl }
def Tryz.lays144_ren : Go.Shelf.Ren := ⟨fun | 144 => 45 | 143 => 62 | 219 => 85 | 217 => 109 | 225 => 110 | 224 => 111 | 267 => 112 | 266 => 125 | 314 => 126 | n => n, fun | 9 => 9 | 4 => 4 | 3 => 3 | 5 => 5 | 46 => 74 | 146 => 161 | 51 => 93 | n => n, fun | 1 => 0 | n => n⟩
theorem Tryz.lays144 : Go.Proofs.Lays.n144 Tryz.prog Tryz.lays144_ren := {
 mixed := by kernel_rfl
 f143 := Tryz.func62.trans (congrArg some (by kernel_rfl))
 f144 := Tryz.func45.trans (congrArg some (by kernel_rfl))
 f217 := Tryz.func109.trans (congrArg some (by kernel_rfl))
 f219 := Tryz.func85.trans (congrArg some (by kernel_rfl))
 f224 := Tryz.func111.trans (congrArg some (by kernel_rfl))
 f225 := Tryz.func110.trans (congrArg some (by kernel_rfl))
 f266 := Tryz.func125.trans (congrArg some (by kernel_rfl))
 f267 := Tryz.func112.trans (congrArg some (by kernel_rfl))
 f314 := Tryz.func126.trans (congrArg some (by kernel_rfl))
 t3 := Tryz.underlying3
 a3 := Tryz.isAgg3
 z3 := Tryz.sizeOf3
 v3 := Tryz.zeroValue3
 t4 := Tryz.underlying4
 a4 := Tryz.isAgg4
 z4 := Tryz.sizeOf4
 v4 := Tryz.zeroValue4
 t5 := Tryz.underlying5
 a5 := Tryz.isAgg5
 z5 := Tryz.sizeOf5
 v5 := Tryz.zeroValue5
 t9 := Tryz.underlying9
 a9 := Tryz.isAgg9
 z9 := Tryz.sizeOf9
 v9 := Tryz.zeroValue9
 t46 := Tryz.underlying74
 a46 := Tryz.isAgg74
 z46 := Tryz.sizeOf74
 v46 := Tryz.zeroValue74
 t51 := Tryz.underlying93
 a51 := Tryz.isAgg93
 z51 := Tryz.sizeOf93
 v51 := Tryz.zeroValue93
 t146 := Tryz.underlying161
 a146 := Tryz.isAgg161
 z146 := Tryz.sizeOf161
 v146 := Tryz.zeroValue161
 g1 := by kernel_rfl }
open Go.RowKit Go.Lib in
theorem Tryz.strings_Contains (s sub : ByteArray) (m : Int) (w : World) (hs : s.size < 4294967281) (hm : w.cell? ⟨0, 0, none⟩ = some (.int .i64 m)) :
  Calls Tryz.prog 45 #[.string s, .string sub] w fun e w' => e = .returned (.bool (Lib.contains s.data.toList sub.data.toList)) ∧ w' = w := Any.strings_Contains Tryz.lays144 s sub m w hs hm
end Go.Proofs
end
section
set_option linter.unusedVariables false
set_option linter.unusedSimpArgs false
namespace Go.Proofs.YtnfanpjfhdlddaaGreatDoor.Pr
open Go Go.RowKit Go.ChangeShapes Go.WideShapes Go.Deep Go.Proofs.YtnfanpjfhdlddaaGreatDoorW.PrintWords Go.Proofs.YtnfanpjfhdlddaaGreatDoorW.PrintLast Go.Proofs.YtnfanpjfhdlddaaGreatDoorW.PrintMore
section
variable {H : Type} {enc : TypeId × Value → H} {P : Program} {w : World} {base : Nat} {spare : Nat → Bool} {held : Bool}
theorem open_slice_fields {t e : TypeId} {fs : Array Field} {fuel : Nat} {cs : List Value} {x : DataW H × List MemPlace} (ht : P.underlying t = some (.slice e)) (he : P.underlying e = some (.struct fs))
  (hone : oneCellFields P fs = true) (hC : P.cellsOf e = fs.size) (h : DataW.trod enc P w base spare held fuel t cs = some x) :
  (cs = [.slice none 0 0] ∧ x = (.nil, [])) ∨
  ∃ (a : Addr) (len cap m : Nat) (D : Nat → DataW H) (Pl : Nat → List MemPlace), cs = [.slice (some a) len cap] ∧ base ≤ a.block ∧ len ≤ cap ∧ cap ≤ maxLen ∧ m = (if spare a.block then cap else len) ∧
   x = (.slice ((List.range len).map D) ((List.range (m - len)).map fun j => D (len + j)), MemPlace.row a (m * fs.size) ++ (List.range m).flatMap Pl) ∧
   ∀ i, i < m → ∃ (ys : List (DataW H × List MemPlace)) (n : Nat), D i = .agg (ys.map (·.1)) ∧ Pl i = ys.flatMap (·.2) ∧ ys.length = fs.size ∧
    ∀ (j : Nat) (f : Field), fs[j]? = some f → ∃ (v : Value) (y : DataW H × List MemPlace), w.cell? (a.add (i * fs.size + j)) = some v ∧ ys[j]? = some y ∧ DataW.trod enc P w base spare held n f.type [v] = some y := by
 rcases open_slice ht h with h0 | ⟨a, len, cap, m, n, D, Pl, hcs, hb, hl, hm, hmm, hx, hi⟩
 ·
  exact .inl h0
 ·
  refine .inr ⟨a, len, cap, m, D, Pl, hcs, hb, hl, hm, hmm, by rw [hC] at hx; exact hx, fun i him => ?_⟩
  obtain ⟨cs', hc, ht'⟩ := hi i him
  rw [hC] at hc
  obtain ⟨ys, n', hn', hy, hlen, hyl, hf⟩ := DataW.trod_struct he ht'
  obtain ⟨_, hcl, hat⟩ := World.cells?_some hc
  simp only [Prod.mk.injEq] at hy
  refine ⟨ys, n', hy.1, hy.2, hyl, fun j f hj => ?_⟩
  obtain ⟨ho, hk⟩ := hone_of hone j f hj
  have hjl : j < fs.size := (Array.getElem?_eq_some_iff.1 hj).1
  have hcell := hat j hjl
  have hv : cs'[j]? = some (cs'[j]'(by omega)) := List.getElem?_eq_getElem (by omega)
  have h1 := hf j f hj
  rw [ho, hk] at h1
  have hone' : (cs'.drop j).take 1 = [cs'[j]'(by omega)] := by
   rw [List.drop_eq_getElem_cons (by omega)]
   rfl
  rw [hone'] at h1
  have hys : ys[j]? = some (ys[j]'(by omega)) := List.getElem?_eq_getElem (by omega)
  refine ⟨_, _, ?_, hys, h1.trans hys⟩
  rw [← Go.Deep.add_add, hcell, hv]
end
theorem list_of {α : Type} {Q : Nat → α → Prop} : ∀ n, (∀ i, i < n → ∃ x, Q i x) → ∃ xs : List α, xs.length = n ∧ ∀ i x, xs[i]? = some x → Q i x
 | 0, _ => ⟨[], rfl, fun i x h => by simp at h⟩
 | n + 1, h => by
  obtain ⟨xs, hl, hx⟩ := list_of n (fun i hi => h i (by omega))
  obtain ⟨x, hq⟩ := h n (by omega)
  refine ⟨xs ++ [x], by simp [hl], fun i y hy => ?_⟩
  rcases Nat.lt_or_ge i n with hi | hi
  ·
   rw [List.getElem?_append_left (by omega)] at hy; exact hx i y hy
  ·
   rw [List.getElem?_append_right (by omega)] at hy
   have : i = n := by
    have := (List.getElem?_eq_some_iff.1 hy).1
    simp at this; omega
   subst this
   simp [hl] at hy
   subst hy; exact hq
theorem u8extra : Go.Proofs.U8Extra Tryz.prog Tryz.lays196_ren := ⟨by kernel_rfl, by kernel_rfl, by kernel_rfl, by kernel_rfl, by kernel_rfl, by kernel_rfl, by kernel_rfl⟩
theorem first_data : (Rows.laid_unicode_utf8_first : DataW Unit) = Lib.firstData := by kernel_rfl
theorem accept_data : (Rows.laid_unicode_utf8_acceptRanges : DataW Unit) = Lib.acceptData := by kernel_rfl
theorem env_of_laid {W : World} (h : laidMet Tryz.prog [("unicode/utf8.acceptRanges", Rows.laid_unicode_utf8_acceptRanges), ("unicode/utf8.first", Rows.laid_unicode_utf8_first)] W) (hs : W.ShapedOpen Tryz.prog) : EnvW W := by
 rw [first_data, accept_data] at h
 exact ⟨Go.Proofs.utf8Tabs_of_readsT (Go.Proofs.U8Types.of196 Tryz.lays196) u8extra (Lib.laidMet.reads h (by simp)) (Lib.laidMet.reads h (by simp)),
  cell_of_shapedOpen_int (zero := #[.int .i64 0]) (t := 3) hs (of_decide_eq_true (by kernel_rfl)) (by kernel_rfl) rfl (by kernel_rfl) (by kernel_rfl) Tryz.underlying3⟩
end Go.Proofs.YtnfanpjfhdlddaaGreatDoor.Pr
end
section
set_option linter.unusedVariables false
set_option linter.unusedSimpArgs false
namespace Go.Proofs.YtnfanpjfhdlddaaGreatDoor.Pr
open Go Go.RowKit Go.ChangeShapes Go.WideShapes Go.Deep Go.Proofs.YtnfanpjfhdlddaaGreatDoorW.PrintWords Go.Proofs.YtnfanpjfhdlddaaGreatDoorW.PrintLast Go.Proofs.YtnfanpjfhdlddaaGreatDoorW.PrintMore
theorem bulk_part {H : Type} {d : DataW H} {l : List (DataW H)} (h : d ∈ l) : Rows.uptoBulk d ≤ Rows.uptoBulkAll l := by
 induction l with
 | nil => cases h
 | cons x r ih =>
  simp only [Rows.uptoBulkAll]
  cases List.mem_cons.1 h with
  | inl e => subst e; omega
  | inr e => have := ih e; omega
theorem bulk_pos {H : Type} (d : DataW H) : 1 ≤ Rows.uptoBulk d := by
 cases d with
 | lit l => cases l <;> simp [Rows.uptoBulk]
 | nil => simp [Rows.uptoBulk]
 | ptr d => simp [Rows.uptoBulk]
 | slice elems spare => simp [Rows.uptoBulk]
 | agg parts => simp [Rows.uptoBulk]
 | iface t d => simp [Rows.uptoBulk]
 | map entries => simp [Rows.uptoBulk]
 | held h => simp [Rows.uptoBulk]
theorem bulk_len {H : Type} (l : List (DataW H)) : l.length ≤ Rows.uptoBulkAll l := by
 induction l with
 | nil => simp [Rows.uptoBulkAll]
 | cons x r ih => have := bulk_pos x; simp only [Rows.uptoBulkAll, List.length_cons]; omega
theorem bulk_str {H : Type} {y : DataW H} {s : ByteArray} (h : y = .lit (.string s.data.toList)) : s.size + 1 = Rows.uptoBulk y := by
 subst h
 simp only [Rows.uptoBulk, Array.length_toList]
 rfl
theorem bulk_in {H : Type} {D : Nat → DataW H} {sp : List (DataW H)} {len i : Nat} {ys : List (DataW H × List MemPlace)} {j : Nat} {y : DataW H × List MemPlace} {s : ByteArray} (hi : i < len) (hD : D i = .agg (ys.map (·.1))) (hy : ys[j]? = some y) (hs : y.1 = .lit (.string s.data.toList)) :
  s.size ≤ Rows.uptoBulk (.slice ((List.range len).map D) sp) := by
 have h1 := bulk_str hs
 have h2 : Rows.uptoBulk y.1 ≤ Rows.uptoBulkAll (ys.map (·.1)) := bulk_part (List.mem_map.2 ⟨y, List.mem_of_getElem? hy, rfl⟩)
 have h3 : Rows.uptoBulk (D i) ≤ Rows.uptoBulkAll ((List.range len).map D) := bulk_part (List.mem_map.2 ⟨i, List.mem_range.2 hi, rfl⟩)
 rw [hD] at h3
 simp only [Rows.uptoBulk] at h3 ⊢
 omega
theorem attrs_bulk {H : Type} {enc : TypeId × Value → H} {W : World} {base : Nat} {spare : Nat → Bool} {held : Bool} {a : Option Addr} {len cap : Nat} {d : DataW H} {ps : List MemPlace} (h : DataW.Trod enc Tryz.prog W base spare held 22 (.slice a len cap) d ps) (hd : Rows.uptoBulk d ≤ 1048576) :
  ∃ l : List S45, l.length = len ∧ len ≤ cap ∧ len ≤ 1048576 ∧ k45.C W a len l ∧ ∀ x ∈ l, x.f0.size ≤ 1048576 ∧ x.f1.size ≤ 1048576 := by
 obtain ⟨fuel, hf⟩ := h
 rcases open_slice_fields Tryz.underlying22 Tryz.underlying45 (by kernel_rfl) (by kernel_rfl) hf with ⟨hcs, _⟩ | ⟨x, l, c, m, D, Pl, hcs, _, hl, hm, hmm, hx, hi⟩
 ·
  simp [Value.cells] at hcs
  obtain ⟨rfl, rfl, rfl⟩ := hcs
  exact ⟨[], rfl, Nat.le_refl _, by omega, flat45.C' (xs := []) (by simp) (fun h => absurd h (by simp)), fun x hx => by cases hx⟩
 ·
  simp [Value.cells] at hcs
  obtain ⟨rfl, rfl, rfl⟩ := hcs
  obtain ⟨hx, _⟩ := Prod.mk.inj hx
  subst hx
  have hlm : len ≤ m := by rw [hmm]; split <;> omega
  have hlen : len ≤ 1048576 := by
   have h1 := bulk_len ((List.range len).map D)
   simp only [Rows.uptoBulk] at hd
   simp only [List.length_map, List.length_range] at h1
   omega
  obtain ⟨xs, hxl, hxs⟩ := list_of (Q := fun i (y : S45) => (W.cell? (x.add (i * 2 + 0)) = some (.string y.f0) ∧ W.cell? (x.add (i * 2 + 1)) = some (.string y.f1)) ∧ y.f0.size ≤ 1048576 ∧ y.f1.size ≤ 1048576) len (fun i hil => by
   obtain ⟨ys, n, hD, _, _, hfld⟩ := hi i (by omega)
   obtain ⟨v0, y0, hc0, hy0, ht0⟩ := hfld 0 _ rfl
   obtain ⟨v1, y1, hc1, hy1, ht1⟩ := hfld 1 _ rfl
   obtain ⟨s0, e0, g0, _⟩ := DataW.trod_string Tryz.underlying9 ht0
   obtain ⟨s1, e1, g1, _⟩ := DataW.trod_string Tryz.underlying9 ht1
   simp at e0 e1
   subst e0 e1
   exact ⟨⟨s0, s1⟩, ⟨hc0, hc1⟩, Nat.le_trans (bulk_in hil hD hy0 (congrArg Prod.fst g0)) hd, Nat.le_trans (bulk_in hil hD hy1 (congrArg Prod.fst g1)) hd⟩)
  refine ⟨xs, hxl, hl, hlen, ?_, fun y hy => ?_⟩
  ·
   have := flat45.C' (w := W) (A := some x) (xs := xs) (by omega) (fun _ => ⟨x, rfl, fun t u hu => by
    obtain ⟨j, i, p, rfl, hi2, hp, he⟩ := flat_split 2 (fun _ => rfl) xs t u hu
    obtain ⟨⟨c0, c1⟩, _⟩ := hxs j p hp
    match i, hi2 with
    | 0, _ => simp [enc45] at he; subst he; exact c0
    | 1, _ => simp [enc45] at he; subst he; exact c1⟩)
   rw [hxl] at this
   exact this
  ·
   obtain ⟨i, hi⟩ := List.getElem?_of_mem hy
   exact (hxs i y hi).2
theorem matchers_bulk {H : Type} {enc : TypeId × Value → H} {W : World} {base : Nat} {spare : Nat → Bool} {held : Bool} {a : Option Addr} {len cap : Nat} {d : DataW H} {ps : List MemPlace} (h : DataW.Trod enc Tryz.prog W base spare held 48 (.slice a len cap) d ps) (hd : Rows.uptoBulk d ≤ 1048576) :
  ∃ l : List S54, l.length = len ∧ len ≤ cap ∧ len ≤ 1048576 ∧ k54.C W a len l ∧ ∀ x ∈ l, x.f1.size ≤ 1048576 ∧ x.f2.size ≤ 1048576 := by
 obtain ⟨fuel, hf⟩ := h
 rcases open_slice_fields Tryz.underlying48 Tryz.underlying54 (by kernel_rfl) (by kernel_rfl) hf with ⟨hcs, _⟩ | ⟨x, l, c, m, D, Pl, hcs, _, hl, hm, hmm, hx, hi⟩
 ·
  simp [Value.cells] at hcs
  obtain ⟨rfl, rfl, rfl⟩ := hcs
  exact ⟨[], rfl, Nat.le_refl _, by omega, flat54.C' (xs := []) (by simp) (fun h => absurd h (by simp)), fun x hx => by cases hx⟩
 ·
  simp [Value.cells] at hcs
  obtain ⟨rfl, rfl, rfl⟩ := hcs
  obtain ⟨hx, _⟩ := Prod.mk.inj hx
  subst hx
  have hlm : len ≤ m := by rw [hmm]; split <;> omega
  have hlen : len ≤ 1048576 := by
   have h1 := bulk_len ((List.range len).map D)
   simp only [Rows.uptoBulk] at hd
   simp only [List.length_map, List.length_range] at h1
   omega
  obtain ⟨xs, hxl, hxs⟩ := list_of (Q := fun i (y : S54) => (W.cell? (x.add (i * 3 + 0)) = some (.int .i64 y.f0) ∧ W.cell? (x.add (i * 3 + 1)) = some (.string y.f1) ∧ W.cell? (x.add (i * 3 + 2)) = some (.string y.f2)) ∧ y.f1.size ≤ 1048576 ∧ y.f2.size ≤ 1048576) len (fun i hil => by
   obtain ⟨ys, n, hD, _, _, hfld⟩ := hi i (by omega)
   obtain ⟨v0, y0, hc0, hy0, ht0⟩ := hfld 0 _ rfl
   obtain ⟨v1, y1, hc1, hy1, ht1⟩ := hfld 1 _ rfl
   obtain ⟨v2, y2, hc2, hy2, ht2⟩ := hfld 2 _ rfl
   obtain ⟨s0, e0, g0, _⟩ := DataW.trod_int Tryz.underlying3 ht0
   obtain ⟨s1, e1, g1, _⟩ := DataW.trod_string Tryz.underlying9 ht1
   obtain ⟨s2, e2, g2, _⟩ := DataW.trod_string Tryz.underlying9 ht2
   simp at e0 e1 e2
   subst e0 e1 e2
   exact ⟨⟨s0, s1, s2⟩, ⟨hc0, hc1, hc2⟩, Nat.le_trans (bulk_in hil hD hy1 (congrArg Prod.fst g1)) hd, Nat.le_trans (bulk_in hil hD hy2 (congrArg Prod.fst g2)) hd⟩)
  refine ⟨xs, hxl, hl, hlen, ?_, fun y hy => ?_⟩
  ·
   have := flat54.C' (w := W) (A := some x) (xs := xs) (by omega) (fun _ => ⟨x, rfl, fun t u hu => by
    obtain ⟨j, i, p, rfl, hi2, hp, he⟩ := flat_split 3 (fun _ => rfl) xs t u hu
    obtain ⟨⟨c0, c1, c2⟩, _⟩ := hxs j p hp
    match i, hi2 with
    | 0, _ => simp [enc54] at he; subst he; exact c0
    | 1, _ => simp [enc54] at he; subst he; exact c1
    | 2, _ => simp [enc54] at he; subst he; exact c2⟩)
   rw [hxl] at this
   exact this
  ·
   obtain ⟨i, hi⟩ := List.getElem?_of_mem hy
   exact (hxs i y hi).2
end Go.Proofs.YtnfanpjfhdlddaaGreatDoor.Pr
end
section
namespace Go.Proofs.YtnfanpjfhdlddaaGreatDoor.Pr
open Go.RowKit Go.Proofs.YtnfanpjfhdlddaaGreatDoorW.PrintWords Go.Proofs.YtnfanpjfhdlddaaGreatDoorW.PrintLast Go.Proofs.YtnfanpjfhdlddaaGreatDoorW.PrintMore
attribute [local go_sem] max2_int min2_int max_two min_two max_three min_three max_four min_four strGtr strLeq strGeq
set_option linter.unusedVariables false
set_option linter.unusedSimpArgs false
def attr_head.f (a0 : Int) : Option (Bool) := if (Go.bits .or .u8 a0 32) ≥ 97 then (if (Go.bits .or .u8 a0 32) ≤ 122 then (some true) else (some (a0 == 95))) else (some (a0 == 95))
set_option maxHeartbeats 8000000 in
set_option maxRecDepth 100000 in
theorem attr_head.calls (a0 : Int) (r : Bool) (w : World) (h : attr_head.f a0 = some r) :
  Calls Tryz.prog 35 #[.int .u8 a0] w fun e w' => e = .returned (.bool r) ∧ Drawn0 w w' := by
 have H : (if (Go.bits .or .u8 a0 32) ≥ 97 then (if (Go.bits .or .u8 a0 32) ≤ 122 then (some true) else (some (a0 == 95))) else (some (a0 == 95))) = some r := h
 clear h
 by_cases c2 : (Go.bits .or .u8 a0 32) ≥ 97
 ·
  rw [if_pos c2] at H
  have c2b0 : decide (97 ≤ (Go.bits .or .u8 a0 32)) = true := decide_eq_true c2
  clear c2
  by_cases c3 : (Go.bits .or .u8 a0 32) ≤ 122
  ·
   rw [if_pos c3] at H
   have c3b0 : decide ((Go.bits .or .u8 a0 32) ≤ 122) = true := decide_eq_true c3
   clear c3
   obtain rfl := Option.some.inj H
   go_enter Tryz.func35, Tryz.ntmps35
   go_wp2
   go_ret
   exact ⟨by first | rfl | (simp; done) | (simp [*]; done), by repeat (first | exact Drawn0.refl _ | apply Drawn0.step)⟩
  ·
   rw [if_neg c3] at H
   have c3b0 : decide ((Go.bits .or .u8 a0 32) ≤ 122) = false := decide_eq_false c3
   clear c3
   obtain rfl := Option.some.inj H
   go_enter Tryz.func35, Tryz.ntmps35
   go_wp2
   go_ret
   exact ⟨by first | rfl | (simp; done) | (simp [*]; done), by repeat (first | exact Drawn0.refl _ | apply Drawn0.step)⟩
 ·
  rw [if_neg c2] at H
  have c2b0 : decide (97 ≤ (Go.bits .or .u8 a0 32)) = false := decide_eq_false c2
  clear c2
  obtain rfl := Option.some.inj H
  go_enter Tryz.func35, Tryz.ntmps35
  go_wp2
  go_ret
  exact ⟨by first | rfl | (simp; done) | (simp [*]; done), by repeat (first | exact Drawn0.refl _ | apply Drawn0.step)⟩
def attr_tail.f (a0 : Int) : Option (Bool) := (attr_head.f a0).bind fun t104 => (if t104 = true then (some true) else (if a0 ≥ 48 then (if a0 ≤ 57 then (some true) else (some (a0 == 46))) else (some (a0 == 46))))
set_option maxHeartbeats 8000000 in
set_option maxRecDepth 100000 in
theorem attr_tail.calls (a0 : Int) (r : Bool) (w : World) (h : attr_tail.f a0 = some r) :
  Calls Tryz.prog 36 #[.int .u8 a0] w fun e w' => e = .returned (.bool r) ∧ Drawn0 w w' := by
 have H : ((attr_head.f a0).bind fun t104 => (if t104 = true then (some true) else (if a0 ≥ 48 then (if a0 ≤ 57 then (some true) else (some (a0 == 46))) else (some (a0 == 46))))) = some r := h
 clear h
 replace H := Option.bind_eq_some_iff.mp H
 obtain ⟨t104, A20, H⟩ := H
 replace H : (if t104 = true then (some true) else (if a0 ≥ 48 then (if a0 ≤ 57 then (some true) else (some (a0 == 46))) else (some (a0 == 46)))) = some r := H
 have A2 := Aside0.mk A20
 clear A20
 by_cases c3 : t104 = true
 ·
  subst c3
  have H1 : (some true) = some r := by rw [if_pos rfl] at H; exact H
  clear H
  have H := H1
  clear H1
  obtain rfl := Option.some.inj H
  go_enter Tryz.func36, Tryz.ntmps36
  go_wp2_with (first | ((with_reducible refine gate_callee (f := 35) rfl ?_); refine goesL_ (some 4) rfl rfl Tryz.func35 (by kernel_rfl) rfl #[.int .u8 a0] rfl (by (try simp only [List.map_toArray, List.map_cons, List.map_nil]); first | done | rfl | (simp only [List.length_drop, List.length_take]; rfl)) ?_; (with_reducible refine (attr_head.calls a0 true _ A2.out).mono ?_); rintro e w' ⟨rfl, ⟨nd, rfl⟩⟩; refine ⟨_, rfl, ?_⟩))
  go_ret
  exact ⟨by first | rfl | (simp; done) | (simp [*]; done), by repeat (first | exact Drawn0.refl _ | apply Drawn0.step)⟩
 ·
  replace c3 := Bool.eq_false_iff.mpr c3
  subst c3
  have H1 : (if a0 ≥ 48 then (if a0 ≤ 57 then (some true) else (some (a0 == 46))) else (some (a0 == 46))) = some r := by rw [if_neg (show ¬ (false = true) by decide)] at H; exact H
  clear H
  have H := H1
  clear H1
  by_cases c4 : a0 ≥ 48
  ·
   rw [if_pos c4] at H
   have c4b0 : decide (48 ≤ a0) = true := decide_eq_true c4
   clear c4
   by_cases c5 : a0 ≤ 57
   ·
    rw [if_pos c5] at H
    have c5b0 : decide (a0 ≤ 57) = true := decide_eq_true c5
    clear c5
    obtain rfl := Option.some.inj H
    go_enter Tryz.func36, Tryz.ntmps36
    go_wp2_with (first | ((with_reducible refine gate_callee (f := 35) rfl ?_); refine goesL_ (some 4) rfl rfl Tryz.func35 (by kernel_rfl) rfl #[.int .u8 a0] rfl (by (try simp only [List.map_toArray, List.map_cons, List.map_nil]); first | done | rfl | (simp only [List.length_drop, List.length_take]; rfl)) ?_; (with_reducible refine (attr_head.calls a0 false _ A2.out).mono ?_); rintro e w' ⟨rfl, ⟨nd, rfl⟩⟩; refine ⟨_, rfl, ?_⟩))
    go_ret
    exact ⟨by first | rfl | (simp; done) | (simp [*]; done), by repeat (first | exact Drawn0.refl _ | apply Drawn0.step)⟩
   ·
    rw [if_neg c5] at H
    have c5b0 : decide (a0 ≤ 57) = false := decide_eq_false c5
    clear c5
    obtain rfl := Option.some.inj H
    go_enter Tryz.func36, Tryz.ntmps36
    go_wp2_with (first | ((with_reducible refine gate_callee (f := 35) rfl ?_); refine goesL_ (some 4) rfl rfl Tryz.func35 (by kernel_rfl) rfl #[.int .u8 a0] rfl (by (try simp only [List.map_toArray, List.map_cons, List.map_nil]); first | done | rfl | (simp only [List.length_drop, List.length_take]; rfl)) ?_; (with_reducible refine (attr_head.calls a0 false _ A2.out).mono ?_); rintro e w' ⟨rfl, ⟨nd, rfl⟩⟩; refine ⟨_, rfl, ?_⟩))
    go_ret
    exact ⟨by first | rfl | (simp; done) | (simp [*]; done), by repeat (first | exact Drawn0.refl _ | apply Drawn0.step)⟩
  ·
   rw [if_neg c4] at H
   have c4b0 : decide (48 ≤ a0) = false := decide_eq_false c4
   clear c4
   obtain rfl := Option.some.inj H
   go_enter Tryz.func36, Tryz.ntmps36
   go_wp2_with (first | ((with_reducible refine gate_callee (f := 35) rfl ?_); refine goesL_ (some 4) rfl rfl Tryz.func35 (by kernel_rfl) rfl #[.int .u8 a0] rfl (by (try simp only [List.map_toArray, List.map_cons, List.map_nil]); first | done | rfl | (simp only [List.length_drop, List.length_take]; rfl)) ?_; (with_reducible refine (attr_head.calls a0 false _ A2.out).mono ?_); rintro e w' ⟨rfl, ⟨nd, rfl⟩⟩; refine ⟨_, rfl, ?_⟩))
   go_ret
   exact ⟨by first | rfl | (simp; done) | (simp [*]; done), by repeat (first | exact Drawn0.refl _ | apply Drawn0.step)⟩
mutual
def attr_Key.j0 : Nat → ByteArray → Bool → Option (Bool)
  | 0, _, _ => none
  | k + 1, x0, x16 => if x16 = true then (some false) else (attr_Key.l0 k x0 (x0.size : Int) 0)
def attr_Key.l0 : Nat → ByteArray → Int → Int → Option (Bool)
  | 0, _, _, _ => none
  | k + 1, x0, x18, x19 => if x19 < x18 then (if 0 ≤ x19 then (if x19 < (x0.size : Int) then ((attr_tail.f (bt x0 x19)).bind fun t106 => (if t106 = true then (attr_Key.l0 k x0 x18 (wrap64 (x19 + 1))) else (some false))) else (none)) else (none)) else (some true)
end
def attr_Key.f (k : Nat) (a0 : ByteArray) : Option (Bool) := if a0.toList = ([] : List UInt8) then (attr_Key.j0 k a0 true) else (if (a0.size : Int) > 64 then (attr_Key.j0 k a0 true) else (if 0 < (a0.size : Int) then ((attr_head.f (bt a0 0)).bind fun t105 => (attr_Key.j0 k a0 (!t105))) else (none)))
theorem attr_Key.mono_l : ∀ k, (∀ y0 y1, LeO (attr_Key.j0 k y0 y1) (attr_Key.j0 (k + 1) y0 y1)) ∧ (∀ y0 y1 y2, LeO (attr_Key.l0 k y0 y1 y2) (attr_Key.l0 (k + 1) y0 y1 y2))
 | 0 => ⟨fun _ _ r h => by simp [attr_Key.j0] at h, fun _ _ _ r h => by simp [attr_Key.l0] at h⟩
 | k + 1 => by
  obtain ⟨ih0, ih1⟩ := attr_Key.mono_l k
  refine ⟨?_, ?_⟩
  ·
   intro y0 y1
   unfold attr_Key.j0
   repeat' first
   | (with_reducible exact ih0 _ _)
   | (with_reducible exact ih1 _ _ _)
   | (with_reducible exact LeO.refl _)
   | (with_reducible exact LeO.none _)
   | (with_reducible refine LeO.ite ?_ ?_)
   | (with_reducible refine LeO.bind ?_ (fun _ => ?_))
   | exact ih0 _ _
   | exact ih1 _ _ _
   | exact LeO.none _
   | refine LeO.ite ?_ ?_
   | refine LeO.bind ?_ (fun _ => ?_)
  ·
   intro y0 y1 y2
   unfold attr_Key.l0
   repeat' first
   | (with_reducible exact ih0 _ _)
   | (with_reducible exact ih1 _ _ _)
   | (with_reducible exact LeO.refl _)
   | (with_reducible exact LeO.none _)
   | (with_reducible refine LeO.ite ?_ ?_)
   | (with_reducible refine LeO.bind ?_ (fun _ => ?_))
   | exact ih0 _ _
   | exact ih1 _ _ _
   | exact LeO.none _
   | refine LeO.ite ?_ ?_
   | refine LeO.bind ?_ (fun _ => ?_)
theorem attr_Key.mono : ∀ a0 k, LeO (attr_Key.f k a0) (attr_Key.f (k + 1) a0) := by
 intro a0 k
 obtain ⟨ih0, ih1⟩ := attr_Key.mono_l k
 unfold attr_Key.f
 repeat' first
   | (with_reducible exact ih0 _ _)
   | (with_reducible exact ih1 _ _ _)
   | (with_reducible exact LeO.refl _)
   | (with_reducible exact LeO.none _)
   | (with_reducible refine LeO.ite ?_ ?_)
   | (with_reducible refine LeO.bind ?_ (fun _ => ?_))
   | exact ih0 _ _
   | exact ih1 _ _ _
   | exact LeO.none _
   | refine LeO.ite ?_ ?_
   | refine LeO.bind ?_ (fun _ => ?_)
set_option maxHeartbeats 8000000 in
set_option maxRecDepth 100000 in
theorem attr_Key.calls (k : Nat) (a0 : ByteArray) (r : Bool) (w : World) (h : attr_Key.f k a0 = some r) :
  Calls Tryz.prog 14 #[.string a0] w fun e w' => e = .returned (.bool r) ∧ Drawn0 w w' := by
 have H : (if a0.toList = ([] : List UInt8) then (attr_Key.j0 k a0 true) else (if (a0.size : Int) > 64 then (attr_Key.j0 k a0 true) else (if 0 < (a0.size : Int) then ((attr_head.f (bt a0 0)).bind fun t105 => (attr_Key.j0 k a0 (!t105))) else (none)))) = some r := h
 clear h
 have HC2 := Aside0.mk H
 clear H
 go_enter Tryz.func14, Tryz.ntmps14
 go_upto_region 1 with (fail)
 go_cut [16] (fun v16 wc => ∃ (kq : Nat) (x16_1 : Bool), v16 = .bool x16_1 ∧ Aside0 (attr_Key.j0 kq a0 x16_1 = some r) ∧ Aside0 (kq ≤ k) ∧ Drawn0 w wc)
 case first =>
  have H := HC2.out
  clear HC2
  by_cases c3 : a0.toList = ([] : List UInt8)
  ·
   rw [if_pos c3] at H
   have c3b0 : (a0.toList == ([] : List UInt8)) = true := beq_iff_eq.mpr c3
   have c3b1 : (a0.toList != ([] : List UInt8)) = false := bne_eq_false_iff_eq.mpr c3
   clear c3
   (first | rw [c3b0] | (simp only [i64_w, i32_w]; rw [c3b0]) | skip)
   have H' := Aside0.mk H
   clear H
   go_wp2
   go_meet
   case rel => exact ⟨_, (true), (by first | rfl | (simp; done) | (simp [*]; done)), H', ⟨by first | omega | exact Nat.le_refl _⟩, by repeat (first | exact Drawn0.refl _ | apply Drawn0.step)⟩
  ·
   rw [if_neg c3] at H
   have c3b0 : (a0.toList == ([] : List UInt8)) = false := beq_eq_false_iff_ne.mpr c3
   have c3b1 : (a0.toList != ([] : List UInt8)) = true := bne_iff_ne.mpr c3
   (first | rw [c3b0] | (simp only [i64_w, i32_w]; rw [c3b0]) | skip)
   by_cases c4 : (a0.size : Int) > 64
   ·
    rw [if_pos c4] at H
    have c4b0 : decide (64 < (a0.size : Int)) = true := decide_eq_true c4
    have c4b1 : decide (64 < a0.size) = true := decide_eq_true (by omega)
    clear c4
    have H' := Aside0.mk H
    clear H
    go_wp2
    go_meet
    case rel => exact ⟨_, (true), (by first | rfl | (simp; done) | (simp [*]; done)), H', ⟨by first | omega | exact Nat.le_refl _⟩, by repeat (first | exact Drawn0.refl _ | apply Drawn0.step)⟩
   ·
    rw [if_neg c4] at H
    have c4b0 : decide (64 < (a0.size : Int)) = false := decide_eq_false c4
    have c4b1 : decide (64 < a0.size) = false := decide_eq_false (by omega)
    clear c4
    by_cases c5 : 0 < (a0.size : Int)
    ·
     rw [if_pos c5] at H
     have c5b0 : decide (0 < (a0.size : Int)) = true := decide_eq_true c5
     have c5b1 : decide (0 < a0.size) = true := decide_eq_true (by omega)
     clear c5
     replace H := Option.bind_eq_some_iff.mp H
     obtain ⟨t105, A70, H⟩ := H
     replace H : (attr_Key.j0 k a0 (!t105)) = some r := H
     have A7 := Aside0.mk A70
     clear A70
     have H' := Aside0.mk H
     clear H
     have p6 : 0 ≤ (0 : Int) := (by omega)
     have q6 : 0 < a0.size := (by have : (0 : Int) < (a0.size : Int) := of_decide_eq_true (by first | (with_reducible assumption) | assumption); omega)
     have hx6 : ∀ h : 0 < a0.size, ((a0[0]'h).toNat : Int) = bt a0 0 := bt_at a0 0
     clear p6
     have qi6 : (0 < (a0.size : Int)) = True := eq_true (of_decide_eq_true (by first | (with_reducible assumption) | assumption))
     replace q6 := eq_true q6
     go_wp2_with (first | (go_at_call 35; (with_reducible refine (attr_head.calls (bt a0 0) t105 _ A7.out).mono ?_); rintro e w' ⟨rfl, ⟨nd, rfl⟩⟩))
     go_meet
     case rel => exact ⟨_, (!t105), (by first | rfl | (simp; done) | (simp [*]; done)), H', ⟨by first | omega | exact Nat.le_refl _⟩, by repeat (first | exact Drawn0.refl _ | apply Drawn0.step)⟩
    ·
     rw [if_neg c5] at H
     exact absurd H (by simp)
 case rest =>
  clear HC2
  try clear c1
  try clear p2
  try clear c3
  try clear c3b0
  try clear c3b1
  try clear c4
  try clear c4b0
  try clear c4b1
  try clear c5
  try clear c5b0
  try clear c5b1
  try clear p6
  try clear q6
  try clear hx6
  try clear qi6
  try clear p6
  try clear q6
  obtain ⟨kq, x16_1, rfl, HA, HJ1, ⟨mc1, rfl⟩⟩ := hcut
  cases kq with
  | zero => exact absurd HA.out (by simp [attr_Key.j0])
  | succ kj1 =>
   have H := HA.out
   clear HA
   simp only [attr_Key.j0] at H
   by_cases c8 : x16_1 = true
   ·
    subst c8
    have H1 : (some false) = some r := by rw [if_pos rfl] at H; exact H
    clear H
    have H := H1
    clear H1
    obtain rfl := Option.some.inj H
    go_wp2
    go_ret
    exact ⟨by first | rfl | (simp; done) | (simp [*]; done), by repeat (first | exact Drawn0.refl _ | apply Drawn0.step)⟩
   ·
    replace c8 := Bool.eq_false_iff.mpr c8
    subst c8
    have H1 : (attr_Key.l0 kj1 a0 (a0.size : Int) 0) = some r := by rw [if_neg (show ¬ (false = true) by decide)] at H; exact H
    clear H
    have H := H1
    clear H1
    have H' := Aside0.mk H
    clear H
    go_wp2
    go_loopg [19] kj1 (fun kq v19 w' => ∃ (x19_2 : Int), v19 = .int .i64 x19_2 ∧ Aside0 (attr_Key.l0 kq a0 (a0.size : Int) x19_2 = some r) ∧ Aside0 (kq ≤ kj1) ∧ Drawn0 w w')
    case atStart => exact ⟨(0), (by first | rfl | (simp; done) | (simp [*]; done)), H', ⟨Nat.le_refl _⟩, by repeat (first | exact Drawn0.refl _ | apply Drawn0.step)⟩
    case round =>
     clear H'
     try clear c1
     try clear p2
     try clear c3
     try clear c3b0
     try clear c3b1
     try clear c4
     try clear c4b0
     try clear c4b1
     try clear c5
     try clear c5b0
     try clear c5b1
     try clear p6
     try clear q6
     try clear hx6
     try clear qi6
     try clear c8
     try clear p2
     try clear p6
     try clear q6
     obtain ⟨x19_2, rfl, HA, HK2, ⟨m2, rfl⟩⟩ := hrel
     cases gk with
     | zero => exact absurd HA.out (by simp [attr_Key.l0])
     | succ k2 =>
      have H := HA.out
      clear HA
      simp only [attr_Key.l0] at H
      by_cases c9 : x19_2 < (a0.size : Int)
      ·
       rw [if_pos c9] at H
       have c9b0 : decide (x19_2 < (a0.size : Int)) = true := decide_eq_true c9
       clear c9
       by_cases c10 : 0 ≤ x19_2
       ·
        rw [if_pos c10] at H
        have c10b0 : decide (0 ≤ x19_2) = true := decide_eq_true c10
        clear c10
        by_cases c11 : x19_2 < (a0.size : Int)
        ·
         rw [if_pos c11] at H
         have c11b0 : decide (x19_2 < (a0.size : Int)) = true := decide_eq_true c11
         clear c11
         replace H := Option.bind_eq_some_iff.mp H
         obtain ⟨t106, A130, H⟩ := H
         replace H : (if t106 = true then (attr_Key.l0 k2 a0 (a0.size : Int) (wrap64 (x19_2 + 1))) else (some false)) = some r := H
         have A13 := Aside0.mk A130
         clear A130
         by_cases c14 : t106 = true
         ·
          subst c14
          have H1 : (attr_Key.l0 k2 a0 (a0.size : Int) (wrap64 (x19_2 + 1))) = some r := by rw [if_pos rfl] at H; exact H
          clear H
          have H := H1
          clear H1
          have H' := Aside0.mk H
          clear H
          have p12 : 0 ≤ (x19_2 : Int) := of_decide_eq_true (by first | (with_reducible assumption) | assumption)
          have q12 : x19_2 < (a0.size : Int) := of_decide_eq_true (by first | (with_reducible assumption) | assumption)
          have hx12 := bt_at a0 x19_2
          replace p12 := eq_true p12
          replace q12 := eq_true q12
          go_wp2_with (first | ((with_reducible refine gate_callee (f := 36) rfl ?_); refine goesL_ (some 25) rfl rfl Tryz.func36 (by kernel_rfl) rfl #[.int .u8 (bt a0 x19_2)] rfl (by (try simp only [List.map_toArray, List.map_cons, List.map_nil]); first | done | rfl | (simp only [List.length_drop, List.length_take]; rfl)) ?_; (with_reducible refine (attr_tail.calls (bt a0 x19_2) true _ A13.out).mono ?_); rintro e w' ⟨rfl, ⟨nd, rfl⟩⟩; refine ⟨_, rfl, ?_⟩))
          go_roundg k2
          case measure => have := HJ1.out; have := HK2.out; omega
          case rel => exact ⟨(wrap64 (x19_2 + 1)), (by first | rfl | (simp; done) | (simp [*]; done)), H', ⟨by have := HJ1.out; have := HK2.out; omega⟩, by repeat (first | exact Drawn0.refl _ | apply Drawn0.step)⟩
         ·
          replace c14 := Bool.eq_false_iff.mpr c14
          subst c14
          have H1 : (some false) = some r := by rw [if_neg (show ¬ (false = true) by decide)] at H; exact H
          clear H
          have H := H1
          clear H1
          obtain rfl := Option.some.inj H
          have p12 : 0 ≤ (x19_2 : Int) := of_decide_eq_true (by first | (with_reducible assumption) | assumption)
          have q12 : x19_2 < (a0.size : Int) := of_decide_eq_true (by first | (with_reducible assumption) | assumption)
          have hx12 := bt_at a0 x19_2
          replace p12 := eq_true p12
          replace q12 := eq_true q12
          go_wp2_with (first | ((with_reducible refine gate_callee (f := 36) rfl ?_); refine goesL_ (some 25) rfl rfl Tryz.func36 (by kernel_rfl) rfl #[.int .u8 (bt a0 x19_2)] rfl (by (try simp only [List.map_toArray, List.map_cons, List.map_nil]); first | done | rfl | (simp only [List.length_drop, List.length_take]; rfl)) ?_; (with_reducible refine (attr_tail.calls (bt a0 x19_2) false _ A13.out).mono ?_); rintro e w' ⟨rfl, ⟨nd, rfl⟩⟩; refine ⟨_, rfl, ?_⟩))
          go_ret
          exact ⟨by first | rfl | (simp; done) | (simp [*]; done), by repeat (first | exact Drawn0.refl _ | apply Drawn0.step)⟩
        ·
         rw [if_neg c11] at H
         exact absurd H (by simp)
       ·
        rw [if_neg c10] at H
        exact absurd H (by simp)
      ·
       rw [if_neg c9] at H
       have c9b0 : decide (x19_2 < (a0.size : Int)) = false := decide_eq_false c9
       clear c9
       obtain rfl := Option.some.inj H
       go_wp2
       go_ret
       exact ⟨by first | rfl | (simp; done) | (simp [*]; done), by repeat (first | exact Drawn0.refl _ | apply Drawn0.step)⟩
end Go.Proofs.YtnfanpjfhdlddaaGreatDoor.Pr
end
section
set_option linter.unusedVariables false
set_option linter.unusedSimpArgs false
namespace Go.Proofs.YtnfanpjfhdlddaaGreatDoor.Pr
open Go.RowKit Go.Proofs.YtnfanpjfhdlddaaGreatDoorW.PrintWords Go.Proofs.YtnfanpjfhdlddaaGreatDoorW.PrintLast Go.Proofs.YtnfanpjfhdlddaaGreatDoorW.PrintMore
theorem wrap_succ {i : Int} (h0 : 0 ≤ i) (h1 : i < 9223372036854775807) : wrap64 (i + 1) = i + 1 := by unfold wrap64; omega
def headB (c : Int) : Bool := (decide (97 ≤ c) && decide (c ≤ 122)) || (decide (65 ≤ c) && decide (c ≤ 90)) || c == 95
def tailB (c : Int) : Bool := headB c || (decide (48 ≤ c) && decide (c ≤ 57)) || c == 46
theorem head_eq (c : Int) (h0 : 0 ≤ c) (h1 : c ≤ 255) : attr_head.f c = some (headB c) := by
 have h : ((List.range 256).all fun n => attr_head.f (n : Int) == some (headB (n : Int))) = true := by kernel_rfl
 have := List.all_eq_true.1 h c.toNat (List.mem_range.2 (by omega))
 rw [Int.toNat_of_nonneg h0] at this
 exact eq_of_beq this
theorem tail_eq (c : Int) (h0 : 0 ≤ c) (h1 : c ≤ 255) : attr_tail.f c = some (tailB c) := by
 have h : ((List.range 256).all fun n => attr_tail.f (n : Int) == some (tailB (n : Int))) = true := by kernel_rfl
 have := List.all_eq_true.1 h c.toNat (List.mem_range.2 (by omega))
 rw [Int.toNat_of_nonneg h0] at this
 exact eq_of_beq this
def allT (s : ByteArray) : Int → Nat → Bool
  | _, 0 => true
  | i, n + 1 => tailB (bt s i) && allT s (i + 1) n
theorem attr_Key_l0 (s : ByteArray) (hs : s.size ≤ 9223372036854775807) : ∀ (n : Nat) (i : Int), 0 ≤ i → i + n = s.size → ∀ k, n < k → attr_Key.l0 k s (s.size : Int) i = some (allT s i n)
 | _, _, _, _, 0, hk => absurd hk (by omega)
 | 0, i, h0, hn, k + 1, hk => by
  rw [attr_Key.l0, if_neg (by omega)]; rfl
 | n + 1, i, h0, hn, k + 1, hk => by
  rw [attr_Key.l0, if_pos (by omega), if_pos h0, if_pos (by omega), tail_eq _ (bt_range s i).1 (bt_range s i).2, Option.bind_some, wrap_succ h0 (by omega)]
  rw [allT]
  cases h : tailB (bt s i) with
  | false => simp
  | true =>
   rw [if_pos rfl, attr_Key_l0 s hs n (i + 1) (by omega) (by omega) k (by omega)]
   simp
def keyB (s : ByteArray) : Bool := decide (1 ≤ s.size) && decide (s.size ≤ 64) && headB (bt s 0) && allT s 1 (s.size - 1)
theorem toList_nil {s : ByteArray} : s.toList = ([] : List UInt8) ↔ s.size = 0 := by
 rw [Lib.toList_data]
 constructor
 ·
  intro h; show s.data.size = 0; rw [← Array.length_toList, h]; rfl
 ·
  intro h
  have : s.data.size = 0 := h
  rw [← Array.length_toList] at this
  exact List.eq_nil_of_length_eq_zero this
theorem key_eq (s : ByteArray) (k : Nat) (hk : 66 < k) : attr_Key.f k s = some (keyB s) := by
 obtain ⟨k, rfl⟩ : ∃ j, k = j + 1 := ⟨k - 1, by omega⟩
 unfold attr_Key.f keyB
 by_cases h0 : s.size = 0
 ·
  rw [if_pos (toList_nil.2 h0)]
  simp [attr_Key.j0, h0]
 ·
  rw [if_neg (fun h => h0 (toList_nil.1 h))]
  by_cases h64 : (s.size : Int) > 64
  ·
   rw [if_pos h64]
   have : ¬ s.size ≤ 64 := by omega
   simp [attr_Key.j0, this]
  ·
   rw [if_neg h64, if_pos (by omega), head_eq _ (bt_range s 0).1 (bt_range s 0).2, Option.bind_some]
   have h1 : decide (1 ≤ s.size) = true := decide_eq_true (by omega)
   have h2 : decide (s.size ≤ 64) = true := decide_eq_true (by omega)
   rw [h1, h2]
   cases hh : headB (bt s 0) with
   | false => simp [attr_Key.j0]
   | true =>
    rw [attr_Key.j0]
    rw [if_neg (by simp)]
    obtain ⟨n, hn⟩ : ∃ n, s.size = n + 1 := ⟨s.size - 1, by omega⟩
    rw [attr_Key_l0 s (by omega) (n + 1) 0 (by omega) (by omega) k (by omega), allT, hn]
    have : tailB (bt s 0) = true := by simp [tailB, hh]
    rw [this]
    simp
end Go.Proofs.YtnfanpjfhdlddaaGreatDoor.Pr
end
section
set_option linter.unusedVariables false
set_option linter.unusedSimpArgs false
namespace Go.Proofs.YtnfanpjfhdlddaaGreatDoor.Pr
open Go.RowKit Go.Proofs.YtnfanpjfhdlddaaGreatDoorW.PrintWords Go.Proofs.YtnfanpjfhdlddaaGreatDoorW.PrintLast Go.Proofs.YtnfanpjfhdlddaaGreatDoorW.PrintMore
def utf8_ValidString.f (a0 : ByteArray) : Option Bool := if a0.size ≤ 9223372036854775807 then some (Lib.validD a0.data.toList) else none
theorem utf8_ValidString.calls (a0 : ByteArray) (r : Bool) (w : World) (h : utf8_ValidString.f a0 = some r)
  (he_ : EnvW w := by repeat (first | with_reducible assumption | with_reducible exact env_of (by with_reducible assumption) (by with_reducible assumption) | with_reducible exact env_out (by with_reducible assumption) | with_reducible apply env_alloc | with_reducible apply env_drewN | with_reducible apply env_drew | with_reducible refine env_set ?_ (by with_reducible assumption) (by with_reducible assumption))) :
  Calls Tryz.prog 56 #[.string a0] w fun e w' => e = .returned (.bool r) ∧ Below w.heap.size w w' := by
 unfold utf8_ValidString.f at h
 by_cases hs : a0.size ≤ 9223372036854775807
 ·
  rw [if_pos hs] at h
  obtain rfl := Option.some.inj h
  exact Any.utf8_ValidString Tryz.lays196 a0 w hs he_.1
 ·
  rw [if_neg hs] at h
  cases h
end Go.Proofs.YtnfanpjfhdlddaaGreatDoor.Pr
end
section
namespace Go.Proofs.YtnfanpjfhdlddaaGreatDoor.Pr
open Go.RowKit Go.Proofs.YtnfanpjfhdlddaaGreatDoorW.PrintWords Go.Proofs.YtnfanpjfhdlddaaGreatDoorW.PrintLast Go.Proofs.YtnfanpjfhdlddaaGreatDoorW.PrintMore
attribute [local go_sem] max2_int min2_int max_two min_two max_three min_three max_four min_four strGtr strLeq strGeq
set_option linter.unusedVariables false
set_option linter.unusedSimpArgs false
def attr_plain.f (a0 : ByteArray) : Option (Bool) := if (a0.size : Int) ≤ 256 then ((utf8_ValidString.f a0).bind fun t107 => (some t107)) else (some false)
set_option maxHeartbeats 8000000 in
set_option maxRecDepth 100000 in
theorem attr_plain.calls (a0 : ByteArray) (r : Bool) (w : World) (h : attr_plain.f a0 = some r) (he_ : EnvW w := by repeat (first | with_reducible assumption | with_reducible exact env_of (by with_reducible assumption) (by with_reducible assumption) | with_reducible exact env_out (by with_reducible assumption) | with_reducible apply env_alloc | with_reducible apply env_drewN | with_reducible apply env_drew | with_reducible refine env_set ?_ (by with_reducible assumption) (by with_reducible assumption))) :
  Calls Tryz.prog 37 #[.string a0] w fun e w' => e = .returned (.bool r) ∧ Below w.heap.size w w' := by
 have HE_ := Aside0.mk he_
 clear he_
 have HB := Aside0.mk (Below.refl w.heap.size w)
 have H : (if (a0.size : Int) ≤ 256 then ((utf8_ValidString.f a0).bind fun t107 => (some t107)) else (some false)) = some r := h
 clear h
 by_cases c2 : (a0.size : Int) ≤ 256
 ·
  rw [if_pos c2] at H
  have c2b0 : decide ((a0.size : Int) ≤ 256) = true := decide_eq_true c2
  have c2b1 : decide (a0.size ≤ 256) = true := decide_eq_true (by omega)
  clear c2
  replace H := Option.bind_eq_some_iff.mp H
  obtain ⟨t107, A30, H⟩ := H
  replace H : (some t107) = some r := H
  have A3 := Aside0.mk A30
  clear A30
  obtain rfl := Option.some.inj H
  go_enter Tryz.func37, Tryz.ntmps37
  go_wp2_with (first | (go_at_call 56; (with_reducible refine (utf8_ValidString.calls a0 t107 _ A3.out).mono ?_); rintro e w4 ⟨rfl, hb⟩; have n0_ := Aside0.mk (below_step (by repeat (first | (with_reducible first | exact HB.out | apply below_alloc | apply pw_below_drewN | apply below_drew1) | exact HB.out)) hb); clear HB; have HB := n0_; clear n0_; (try clear hb); (try clear hb2); (try clear hk); (try clear hi)))
  go_ret
  exact ⟨by first | rfl | (simp [errW_none, errW_some] <;> rfl) | (simp [*, errW_none, errW_some] <;> rfl), by repeat (first | (with_reducible first | exact HB.out | apply below_alloc | apply pw_below_drewN | apply below_drew1) | exact HB.out)⟩
 ·
  rw [if_neg c2] at H
  have c2b0 : decide ((a0.size : Int) ≤ 256) = false := decide_eq_false c2
  have c2b1 : decide (a0.size ≤ 256) = false := decide_eq_false (by omega)
  clear c2
  obtain rfl := Option.some.inj H
  go_enter Tryz.func37, Tryz.ntmps37
  go_wp2
  go_ret
  exact ⟨by first | rfl | (simp [errW_none, errW_some] <;> rfl) | (simp [*, errW_none, errW_some] <;> rfl), by repeat (first | (with_reducible first | exact HB.out | apply below_alloc | apply pw_below_drewN | apply below_drew1) | exact HB.out)⟩
def attr_Value.f (a0 : ByteArray) : Option (Bool) := if a0.toList = ([] : List UInt8) then (some false) else ((attr_plain.f a0).bind fun t108 => (some t108))
set_option maxHeartbeats 8000000 in
set_option maxRecDepth 100000 in
theorem attr_Value.calls (a0 : ByteArray) (r : Bool) (w : World) (h : attr_Value.f a0 = some r) (he_ : EnvW w := by repeat (first | with_reducible assumption | with_reducible exact env_of (by with_reducible assumption) (by with_reducible assumption) | with_reducible exact env_out (by with_reducible assumption) | with_reducible apply env_alloc | with_reducible apply env_drewN | with_reducible apply env_drew | with_reducible refine env_set ?_ (by with_reducible assumption) (by with_reducible assumption))) :
  Calls Tryz.prog 16 #[.string a0] w fun e w' => e = .returned (.bool r) ∧ Below w.heap.size w w' := by
 have HE_ := Aside0.mk he_
 clear he_
 have HB := Aside0.mk (Below.refl w.heap.size w)
 have H : (if a0.toList = ([] : List UInt8) then (some false) else ((attr_plain.f a0).bind fun t108 => (some t108))) = some r := h
 clear h
 by_cases c2 : a0.toList = ([] : List UInt8)
 ·
  rw [if_pos c2] at H
  have c2b0 : (a0.toList == ([] : List UInt8)) = true := beq_iff_eq.mpr c2
  have c2b1 : (a0.toList != ([] : List UInt8)) = false := bne_eq_false_iff_eq.mpr c2
  clear c2
  obtain rfl := Option.some.inj H
  go_enter Tryz.func16, Tryz.ntmps16
  go_wp2
  go_ret
  exact ⟨by first | rfl | (simp [errW_none, errW_some] <;> rfl) | (simp [*, errW_none, errW_some] <;> rfl), by repeat (first | (with_reducible first | exact HB.out | apply below_alloc | apply pw_below_drewN | apply below_drew1) | exact HB.out)⟩
 ·
  rw [if_neg c2] at H
  have c2b0 : (a0.toList == ([] : List UInt8)) = false := beq_eq_false_iff_ne.mpr c2
  have c2b1 : (a0.toList != ([] : List UInt8)) = true := bne_iff_ne.mpr c2
  replace H := Option.bind_eq_some_iff.mp H
  obtain ⟨t108, A30, H⟩ := H
  replace H : (some t108) = some r := H
  have A3 := Aside0.mk A30
  clear A30
  obtain rfl := Option.some.inj H
  go_enter Tryz.func16, Tryz.ntmps16
  go_wp2_with (first | (go_at_call 37; (with_reducible refine (attr_plain.calls a0 t108 _ A3.out).mono ?_); rintro e w4 ⟨rfl, hb⟩; have n0_ := Aside0.mk (below_step (by repeat (first | (with_reducible first | exact HB.out | apply below_alloc | apply pw_below_drewN | apply below_drew1) | exact HB.out)) hb); clear HB; have HB := n0_; clear n0_; (try clear hb); (try clear hb2); (try clear hk); (try clear hi)))
  go_ret
  exact ⟨by first | rfl | (simp [errW_none, errW_some] <;> rfl) | (simp [*, errW_none, errW_some] <;> rfl), by repeat (first | (with_reducible first | exact HB.out | apply below_alloc | apply pw_below_drewN | apply below_drew1) | exact HB.out)⟩
end Go.Proofs.YtnfanpjfhdlddaaGreatDoor.Pr
end
section
set_option linter.unusedVariables false
set_option linter.unusedSimpArgs false
namespace Go.Proofs.YtnfanpjfhdlddaaGreatDoor.Pr
open Go.RowKit Go.Proofs.YtnfanpjfhdlddaaGreatDoorW.PrintWords Go.Proofs.YtnfanpjfhdlddaaGreatDoorW.PrintLast Go.Proofs.YtnfanpjfhdlddaaGreatDoorW.PrintMore
theorem wrap_small {n : Int} (h0 : -9223372036854775808 ≤ n) (h1 : n < 9223372036854775808) : wrap64 n = n := by unfold wrap64; omega
def inr (c lo hi : Int) : Bool := decide (lo ≤ c) && decide (c ≤ hi)
theorem m1 {p : Prop} [Decidable p] {x : Bool} (hx : x = decide (¬ p)) (v : Nat → Bool) (n : Nat) : (x && v n) = match (if p then none else some n : Option Nat) with | none => false | some k => v k := by
 subst hx
 by_cases h : p <;> simp [h]
end Go.Proofs.YtnfanpjfhdlddaaGreatDoor.Pr
end
section
set_option linter.unusedVariables false
set_option linter.unusedSimpArgs false
namespace Go.Proofs.YtnfanpjfhdlddaaGreatDoor.Pr
open Go.RowKit Go.Proofs.YtnfanpjfhdlddaaGreatDoorW.PrintWords Go.Proofs.YtnfanpjfhdlddaaGreatDoorW.PrintLast Go.Proofs.YtnfanpjfhdlddaaGreatDoorW.PrintMore
def slices_Clone_Attr.f (l0 : List S45) : Option (List S45) := if l0.length < 4398046511104 then some l0 else none
set_option maxHeartbeats 1000000 in
theorem slices_Clone_Attr.calls (A0 : Option Addr) (c0 : Nat) (l0 : List S45) (r : List S45) (w : World) (hr0 : Kd.C k45 w A0 l0.length l0) (hc0 : l0.length ≤ c0) (h : slices_Clone_Attr.f l0 = some r) :
  Calls Tryz.prog 31 #[.slice A0 l0.length c0] w fun e w' => ∃ v0_ : Value, e = .returned (v0_) ∧ Kd.R k45 45 w' w.heap.size (fun _ => True) v0_ r ∧ Below w.heap.size w w' := by
 unfold slices_Clone_Attr.f at h
 by_cases hl : l0.length < 4398046511104
 ·
  rw [if_pos hl] at h
  obtain rfl := Option.some.inj h
  clear h
  have q22 : ∀ (w : World) (a : Option Addr) (n c n' c' : Nat), (binOp .eql 22 (.slice a n c) (.slice none n' c')).run Tryz.prog w = .ok (.bool a.isNone) w := fun w a n c n' c' => Lib.run_eql_slice_nil w _ _ a n c n' c' Tryz.underlying22
  have HL := Aside0.mk hl
  clear hl
  cases A0 with
  | none =>
   have h0 : l0.length = 0 := by
    rcases Nat.eq_zero_or_pos l0.length with h0 | h0
    ·
     exact h0
    ·
     obtain ⟨ad, e, _⟩ := hr0.2.2 h0
     cases e
   have hn := List.eq_nil_of_length_eq_zero h0
   subst hn
   clear hr0 h0
   go_enter Tryz.func31, Tryz.ntmps31
   go_wp2
   go_ret
   exact ⟨_, rfl, Kd.R_nil _ _ _ _ _, Below.refl _ _⟩
  | some ad =>
   have HR0 := Aside0.mk hr0
   clear hr0 hc0
   go_enter Tryz.func31, Tryz.ntmps31
   go_wp2_with (first | ((with_reducible refine gate_builtin (b := .append) (xs := #[.tmp 5, .tmp 6]) rfl ?_); at_builtin; refine Kd.R_append_rows k45 (w0 := w) w.heap.size rfl (.tmp 5) (.tmp 6) 22 45 (.agg #[(.string ⟨#[]⟩), (.string ⟨#[]⟩)]) 32 rfl Tryz.underlying22 info45 rfl (by decide) (by omega) (.slice (some ⟨w.heap.size, 0, none⟩) 0 0) ([] : List (S45)) l0 _ _ _ (fun _ => True) (fun _ => False) rfl rfl ?aO ?aR (fun _ _ h => h) (fun _ h => h.elim) ?aF ?aB ?aS ?aL ?_; (case aR => exact Kd.C_alloc HR0.out _); (case aB => exact (Below.refl _ _).alloc (Nat.le_refl _) _); (case aF => exact (fun _ _ => trivial)); (case aO => exact flat45.R' (fun _ _ => trivial) (World.ownsRow_made w #[] 0 (Nat.le_refl _) (Nat.zero_le _) (by simp))); (case aS => simp); (case aL => have := HL.out; (try simp only [List.length_nil, Nat.zero_add]); omega); intro v1 w1 ho hb hg hat))
   go_ret
   exact ⟨_, rfl, by simpa using ho, hb⟩
 ·
  rw [if_neg hl] at h
  cases h
end Go.Proofs.YtnfanpjfhdlddaaGreatDoor.Pr
end
section
set_option linter.unusedVariables false
set_option linter.unusedSimpArgs false
namespace Go.Proofs.YtnfanpjfhdlddaaGreatDoor.Pr
open Go.RowKit Go.Proofs.YtnfanpjfhdlddaaGreatDoorW.PrintWords Go.Proofs.YtnfanpjfhdlddaaGreatDoorW.PrintLast Go.Proofs.YtnfanpjfhdlddaaGreatDoorW.PrintMore
open Go.Sort (flatK HoldsK putRowK ahead grow)
theorem sw_heap_ne {α : Type} [Inhabited α] (enc : α → List Value) (k : Nat) (w : World) (g n : Nat) (d : Array α) (os : Array Obj) (i : Nat) (hi : i < w.heap.size) (hne : i ≠ g) : (sortWorldK enc k w g 0 n d os).heap[i]? = w.heap[i]? := by
 unfold sortWorldK Sort.grow Sort.putRowK Sort.putRow Sort.mapBlock Sort.ahead
 simp only
 rw [Array.getElem?_append_left (by simpa using hi), Array.getElem?_modify, if_neg (Ne.symm hne)]
theorem sw_heap_eq {α : Type} [Inhabited α] (enc : α → List Value) (k : Nat) (w : World) (g n : Nat) (d : Array α) (os : Array Obj) {cur : Array Value} {e : TypeId} (hg : w.heap[g]? = some (.cells cur e (0, 0))) :
  (sortWorldK enc k w g 0 n d os).heap[g]? = some (.cells (Sort.putCells id 0 (flatK enc k d) cur) e (0, 0)) := by
 have hlt : g < w.heap.size := (Array.getElem?_eq_some_iff.1 hg).1
 unfold sortWorldK Sort.grow Sort.putRowK Sort.putRow Sort.mapBlock Sort.ahead
 simp only
 rw [Array.getElem?_append_left (by simpa using hlt), Array.getElem?_modify, if_pos rfl, hg]
 rfl
theorem sw_size {α : Type} [Inhabited α] (enc : α → List Value) (k : Nat) (w : World) (g n : Nat) (d : Array α) (os : Array Obj) : w.heap.size ≤ (sortWorldK enc k w g 0 n d os).heap.size := by
 unfold sortWorldK Sort.grow Sort.putRowK Sort.putRow Sort.mapBlock Sort.ahead
 simp
theorem sw_kept {α : Type} [Inhabited α] (enc : α → List Value) (k : Nat) (w : World) (g n : Nat) (d : Array α) (os : Array Obj) : Kept w (sortWorldK enc k w g 0 n d os) (fun k_ => k_ = g) :=
 ⟨sw_size enc k w g n d os, fun i hi hne => sw_heap_ne enc k w g n d os i hi hne⟩
theorem sw_below {α : Type} [Inhabited α] (enc : α → List Value) (k : Nat) (w0 w : World) (g n : Nat) (d : Array α) (os : Array Obj) (hB : Below w0.heap.size w0 w) (hg : w0.heap.size ≤ g) : Below w0.heap.size w0 (sortWorldK enc k w g 0 n d os) :=
 hB.trans ⟨rfl, rfl, rfl, sw_size enc k w g n d os, fun i hi => sw_heap_ne enc k w g n d os i (Nat.lt_of_lt_of_le hi hB.size) (by omega)⟩
theorem putCells_take (F cur : Array Value) (hs : F.size ≤ cur.size) : (Sort.putCells id 0 F cur).toList.take F.size = F.toList := by
 apply List.ext_getElem?
 intro i
 rw [List.getElem?_take]
 by_cases hi : i < F.size
 ·
  rw [if_pos hi]
  have hc : i < cur.size := by omega
  simp only [Sort.putCells, Array.getElem?_toList, Array.getElem?_mapIdx, Array.getElem?_eq_getElem hc, Option.map_some, Nat.zero_le, Nat.zero_add, hi, and_self, if_true, Nat.sub_zero, id]
  rw [getElem!_pos F i hi, Array.getElem?_eq_getElem hi]
 ·
  rw [if_neg hi, List.getElem?_eq_none (by simp; omega)]
section
variable {α : Type} [Inhabited α] {d : Kd α} {enc : α → List Value}
theorem Flat.holds (F : Flat d enc) {e : Nat} {w : World} {base : Nat} {ok : Nat → Prop} {v : Value} {xs : List α} (h : d.R e w base ok v xs) (hp : 0 < xs.length) :
  ∃ g cap, v = .slice (some ⟨g, 0, none⟩) xs.length cap ∧ base ≤ g ∧ g < w.heap.size ∧ ok g ∧ HoldsK enc d.sz w g 0 xs.toArray := by
 obtain ⟨hok, ho⟩ := F.R h
 rcases ho.2 with ⟨_, h0⟩ | ⟨g, cap, cur, rfl, hb, hg, hn, hc, hs, ht⟩
 ·
  omega
 ·
  refine ⟨g, cap, rfl, hb, (Array.getElem?_eq_some_iff.1 hg).1, hok g rfl, fun j hj => ?_⟩
  have hj' : j < xs.length * d.sz := by simpa using hj
  have hcur : j < cur.size := by
   rw [hs]
   exact Nat.lt_of_lt_of_le hj' (Nat.mul_le_mul_right _ hn)
  have hF : (flatK enc d.sz xs.toArray)[j]! = cur[j] := by
   rw [getElem!_pos _ j hj, ← Array.getElem_toList]
   have e1 : (flatK enc d.sz xs.toArray).toList[j]? = some cur[j] := by
    rw [flatK_eq enc d.sz F.len, ← ht, List.getElem?_take, if_pos hj']
    simp [hcur]
   rw [List.getElem?_eq_getElem (by simpa using hj)] at e1
   exact Option.some.inj e1
  rw [hF, Nat.zero_add]
  refine ⟨?_, ?_⟩
  ·
   simp [World.cell?, hg, hcur]
  ·
   simp [World.frozen?, hg]
theorem Flat.sorted (F : Flat d enc) {e : Nat} {w : World} {base : Nat} {ok : Nat → Prop} {g cap n : Nat} {xs : List α} (h : d.R e w base ok (.slice (some ⟨g, 0, none⟩) xs.length cap) xs) (d' : Array α) (hs : d'.size = xs.length) (os : Array Obj) :
  d.R e (sortWorldK enc d.sz w g 0 n d' os) base ok (.slice (some ⟨g, 0, none⟩) xs.length cap) d'.toList := by
 obtain ⟨hok, ho⟩ := F.R h
 rcases ho.2 with ⟨hx, h0⟩ | ⟨g', cap', cur, hv, hb, hg, hn, hc, hcs, ht⟩
 ·
  cases hx
 ·
  injection hv with h1 h2 h3
  injection h1 with h1
  injection h1 with h1
  subst h1; subst h3
  have hl : d'.toList.length = xs.length := by simpa using hs
  have hm : xs.length * d.sz ≤ cap * d.sz := Nat.mul_le_mul_right _ hn
  refine F.R' hok ?_
  rw [hl]
  refine ⟨by rw [flat_len d.sz F.len, hl], .inr ⟨g, cap, _, rfl, hb, sw_heap_eq enc d.sz w g n d' os hg, hn, hc, by simp [Sort.putCells, hcs], ?_⟩⟩
  have hfs : (flatK enc d.sz d').size = xs.length * d.sz := by simp [hs]
  rw [← hfs, putCells_take _ _ (by rw [hfs, hcs]; exact hm)]
  have := flatK_eq enc d.sz F.len d'.toList
  simpa using this
end
theorem cmp_refl : ∀ a : List UInt8, Lib.compareBytes a a = 0
 | [] => rfl
 | a :: x => by simp [Lib.compareBytes, cmp_refl x]
theorem cmp_lt : ∀ a b : List UInt8, decide (Lib.compareBytes a b < 0) = Op.bytesLess a b
 | [], [] => rfl
 | [], _ :: _ => rfl
 | _ :: _, [] => rfl
 | a :: x, b :: y => by
  unfold Lib.compareBytes Op.bytesLess
  by_cases h1 : a < b
  ·
   simp [h1]
  ·
   by_cases h2 : b < a
   ·
    have : ¬ a = b := by rintro rfl; exact h1 h2
    simp [h1, h2, this]
   ·
    have : a = b := UInt8.toNat_inj.1 (by
     have h1' : ¬ a.toNat < b.toNat := h1
     have h2' : ¬ b.toNat < a.toNat := h2
     omega)
    subst this
    simp only [h1, if_false]
    rw [cmp_lt x y]
    simp
theorem less_trans : ∀ a b c : List UInt8, Op.bytesLess a b = true → Op.bytesLess b c = true → Op.bytesLess a c = true
 | _, [], _, h, _ => by cases ‹List UInt8› <;> simp [Op.bytesLess] at h
 | _, _ :: _, [], _, h => by simp [Op.bytesLess] at h
 | [], _ :: _, _ :: _, _, _ => rfl
 | a :: x, b :: y, c :: z, h1, h2 => by
  simp only [Op.bytesLess, Bool.or_eq_true, decide_eq_true_eq, Bool.and_eq_true, beq_iff_eq] at *
  rcases h1 with h1 | ⟨rfl, h1⟩
  ·
   rcases h2 with h2 | ⟨rfl, h2⟩
   ·
    left
    have h1' : a.toNat < b.toNat := h1
    have h2' : b.toNat < c.toNat := h2
    show a.toNat < c.toNat
    omega
   ·
    exact .inl h1
  ·
   rcases h2 with h2 | ⟨rfl, h2⟩
   ·
    exact .inl h2
   ·
    exact .inr ⟨rfl, less_trans x y z h1 h2⟩
theorem less_ntrans (a b c : List UInt8) (h1 : Op.bytesLess a b = false) (h2 : Op.bytesLess b c = false) : Op.bytesLess a c = false := by
 have e1 := bytesLess_total a b
 have e2 := bytesLess_total b c
 rw [h1] at e1
 rw [h2] at e2
 rcases Bool.eq_false_or_eq_true (Op.bytesLess a c) with h | h
 ·
  exfalso
  by_cases hab : a = b
  ·
   subst hab; rw [h] at h2; cases h2
  ·
   by_cases hbc : b = c
   ·
    subst hbc; rw [h] at h1; cases h1
   ·
    have hba : Op.bytesLess b a = true := by rw [← e1]; simp [hab]
    have hcb : Op.bytesLess c b = true := by rw [← e2]; simp [hbc]
    have := less_trans c b a hcb hba
    have := less_trans a c a h this
    rw [bytesLess_irrefl] at this
    cases this
 ·
  exact h
end Go.Proofs.YtnfanpjfhdlddaaGreatDoor.Pr
end
section
namespace Go.Proofs
open Go.Shelf
def Tryz.laySort_ren : Go.Shelf.Ren := ⟨fun | 6 => 32 | 15 => 54 | 14 => 53 | 28 => 75 | 29 => 76 | 20 => 67 | 21 => 68 | 22 => 69 | 23 => 70 | 24 => 71 | 25 => 72 | 26 => 73 | 27 => 74 | 46 => 94 | 47 => 95 | 48 => 96 | 49 => 97 | 50 => 98 | 57 => 116 | n => n, fun | 22 => 22 | 24 => 45 | 25 => 58 | 3 => 3 | 39 => 74 | 0 => 0 | 53 => 93 | 55 => 95 | 4 => 4 | 46 => 86 | 45 => 85 | 50 => 90 | 5 => 5 | 9 => 9 | 66 => 122 | 70 => 126 | 76 => 151 | 77 => 152 | n => n, fun | n => n⟩
theorem Tryz.laySort : Go.Proofs.SlLaysF0.n6 Tryz.prog Tryz.laySort_ren := {
 mixed := by kernel_rfl
 f6 := ⟨Tryz.f32.name, by decide, Tryz.func32.trans (congrArg some (by kernel_rfl))⟩
 f14 := ⟨Tryz.f53.name, by decide, Tryz.func53.trans (congrArg some (by kernel_rfl))⟩
 f15 := Tryz.func54.trans (congrArg some (by kernel_rfl))
 f20 := ⟨Tryz.f67.name, by decide, Tryz.func67.trans (congrArg some (by kernel_rfl))⟩
 f21 := ⟨Tryz.f68.name, by decide, Tryz.func68.trans (congrArg some (by kernel_rfl))⟩
 f22 := ⟨Tryz.f69.name, by decide, Tryz.func69.trans (congrArg some (by kernel_rfl))⟩
 f23 := ⟨Tryz.f70.name, by decide, Tryz.func70.trans (congrArg some (by kernel_rfl))⟩
 f24 := ⟨Tryz.f71.name, by decide, Tryz.func71.trans (congrArg some (by kernel_rfl))⟩
 f25 := ⟨Tryz.f72.name, by decide, Tryz.func72.trans (congrArg some (by kernel_rfl))⟩
 f26 := ⟨Tryz.f73.name, by decide, Tryz.func73.trans (congrArg some (by kernel_rfl))⟩
 f27 := ⟨Tryz.f74.name, by decide, Tryz.func74.trans (congrArg some (by kernel_rfl))⟩
 f28 := Tryz.func75.trans (congrArg some (by kernel_rfl))
 f29 := Tryz.func76.trans (congrArg some (by kernel_rfl))
 f46 := ⟨Tryz.f94.name, by decide, Tryz.func94.trans (congrArg some (by kernel_rfl))⟩
 f47 := Tryz.func95.trans (congrArg some (by kernel_rfl))
 f48 := Tryz.func96.trans (congrArg some (by kernel_rfl))
 f49 := ⟨Tryz.f97.name, by decide, Tryz.func97.trans (congrArg some (by kernel_rfl))⟩
 f50 := ⟨Tryz.f98.name, by decide, Tryz.func98.trans (congrArg some (by kernel_rfl))⟩
 f57 := ⟨Tryz.f116.name, by decide, Tryz.func116.trans (congrArg some (by kernel_rfl))⟩
 t0 := Tryz.underlying0
 a0 := Tryz.isAgg0
 z0 := Tryz.sizeOf0
 v0 := Tryz.zeroValue0
 t3 := Tryz.underlying3
 a3 := Tryz.isAgg3
 z3 := Tryz.sizeOf3
 v3 := Tryz.zeroValue3
 t4 := Tryz.underlying4
 a4 := Tryz.isAgg4
 z4 := Tryz.sizeOf4
 v4 := Tryz.zeroValue4
 t5 := Tryz.underlying5
 a5 := Tryz.isAgg5
 z5 := Tryz.sizeOf5
 v5 := Tryz.zeroValue5
 t9 := Tryz.underlying9
 a9 := Tryz.isAgg9
 z9 := Tryz.sizeOf9
 v9 := Tryz.zeroValue9
 t22 := Tryz.underlying22
 a22 := Tryz.isAgg22
 z22 := Tryz.sizeOf22
 v22 := Tryz.zeroValue22
 t25 := Tryz.underlying58
 a25 := Tryz.isAgg58
 z25 := Tryz.sizeOf58
 v25 := Tryz.zeroValue58
 t39 := Tryz.underlying74
 a39 := Tryz.isAgg74
 z39 := Tryz.sizeOf74
 v39 := Tryz.zeroValue74
 t45 := Tryz.underlying85
 a45 := Tryz.isAgg85
 z45 := Tryz.sizeOf85
 v45 := Tryz.zeroValue85
 t46 := Tryz.underlying86
 a46 := Tryz.isAgg86
 z46 := Tryz.sizeOf86
 v46 := Tryz.zeroValue86
 t50 := Tryz.underlying90
 a50 := Tryz.isAgg90
 z50 := Tryz.sizeOf90
 v50 := Tryz.zeroValue90
 t53 := Tryz.underlying93
 a53 := Tryz.isAgg93
 z53 := Tryz.sizeOf93
 v53 := Tryz.zeroValue93
 t55 := Tryz.underlying95
 a55 := Tryz.isAgg95
 z55 := Tryz.sizeOf95
 v55 := Tryz.zeroValue95
 t66 := Tryz.underlying122
 a66 := Tryz.isAgg122
 z66 := Tryz.sizeOf122
 v66 := Tryz.zeroValue122
 t70 := Tryz.underlying126
 a70 := Tryz.isAgg126
 z70 := Tryz.sizeOf126
 v70 := Tryz.zeroValue126
 t76 := Tryz.underlying151
 a76 := Tryz.isAgg151
 z76 := Tryz.sizeOf151
 v76 := Tryz.zeroValue151
 t77 := Tryz.underlying152
 a77 := Tryz.isAgg152
 z77 := Tryz.sizeOf152
 v77 := Tryz.zeroValue152 }
end Go.Proofs
end
section
set_option linter.unusedVariables false
set_option linter.unusedSimpArgs false
namespace Go.Proofs.YtnfanpjfhdlddaaGreatDoor.Pr
open Go.RowKit Go.Proofs.YtnfanpjfhdlddaaGreatDoorW.PrintWords Go.Proofs.YtnfanpjfhdlddaaGreatDoorW.PrintLast Go.Proofs.YtnfanpjfhdlddaaGreatDoorW.PrintMore
open Go.Sort (flatK HoldsK putRowK ahead grow)
def cmpKey (x y : S45) : Int := Lib.compareBytes x.f0.data.toList y.f0.data.toList
theorem cmpKey_lt (x y : S45) : ltOf cmpKey x y = Op.bytesLess x.f0.data.toList y.f0.data.toList := cmp_lt _ _
theorem swoKey : Sort.SWO (ltOf cmpKey) where
 irrefl x := by rw [cmpKey_lt]; exact bytesLess_irrefl _
 trans x y z h1 h2 := by rw [cmpKey_lt] at *; exact less_trans _ _ _ h1 h2
 ntrans x y z h1 h2 := by rw [cmpKey_lt] at *; exact less_ntrans _ _ _ h1 h2
set_option maxHeartbeats 1000000 in
theorem closure33 (x y : S45) (W : World) : Calls Tryz.prog 33 #[.agg #[.string x.f0, .string x.f1], .agg #[.string y.f0, .string y.f1]] W fun e w' => e = .returned (.int .i64 (cmpKey x y)) ∧ ∃ q os', w' = Sort.grow (W.drewN q) os' := by
 have hcon := fun W' => Tryz.strings_Compare x.f0 y.f0 W'
 unfold cmpKey
 generalize Lib.compareBytes x.f0.data.toList y.f0.data.toList = r at hcon ⊢
 have hu45 := Tryz.underlying45
 go_enter Tryz.func33, Tryz.ntmps33
 go_wp2_with (go_at_call 34; refine (hcon _).mono ?_; rintro e w' ⟨rfl, rfl⟩)
 go_ret
 exact ⟨rfl, 0, _, by rw [Sort.alloc_eq_grow, Sort.alloc_eq_grow, Sort.grow_grow]; rfl⟩
theorem cmpLays33 (blk off size : Nat) (w : World) : CmpLays Tryz.prog 33 #[] enc45 2 cmpKey blk off size w := fun _ _ _ _ x y => closure33 x y _
def sorted45 (l : List S45) : List S45 := (Sort.pdq (ltOf cmpKey) l.toArray 0 l.toArray.size (Lib.bitLen l.toArray.size) true true).toList
def slices_SortFunc_Attr.f (l0 : List S45) : Option (List S45) := if l0.length < 4611686018427387904 then some (sorted45 l0) else none
theorem sorted45_perm (l : List S45) : (sorted45 l).Perm l ∧ (sorted45 l).length = l.length ∧ Sort.SortedIn (ltOf cmpKey) 0 l.length (sorted45 l).toArray := by
 have h := Sort.pdq_sorts (ltOf cmpKey) swoKey l.toArray 0 l.toArray.size (Lib.bitLen l.toArray.size) true true (Nat.zero_le _) (Nat.le_refl _) (Or.inl rfl)
 unfold sorted45
 generalize Sort.pdq (ltOf cmpKey) l.toArray 0 l.toArray.size (Lib.bitLen l.toArray.size) true true = X at h
 obtain ⟨⟨h1, _, h3⟩, h4⟩ := h
 have e1 : X.extract 0 l.toArray.size = X := by rw [← h1]; simp
 have e2 : l.toArray.extract 0 l.toArray.size = l.toArray := by simp
 rw [e1, e2] at h3
 exact ⟨by simpa using h3, by simpa using h1, by simpa using h4⟩
theorem sorted45_nil : sorted45 [] = [] := by
 have := (sorted45_perm []).2.1
 exact List.eq_nil_of_length_eq_zero this
set_option maxHeartbeats 1000000 in
theorem slices_SortFunc_Attr.calls (P0_ : Nat → Prop) (u9000_ : Value) (l0 : List S45) (r : List S45) (w0 w : World) (hB : Below w0.heap.size w0 w) (ho0 : Kd.R k45 45 w w0.heap.size P0_ u9000_ l0) (h : slices_SortFunc_Attr.f l0 = some r) :
  Calls Tryz.prog 32 #[u9000_, .func (.func 33) #[] #[]] w fun e w' => e = .returned (.tuple #[]) ∧ Kd.R k45 45 w' w0.heap.size (fun k_ => (P0_ k_ ∨ w.heap.size ≤ k_)) u9000_ r ∧ Below w0.heap.size w0 w' ∧ Kept w w' (fun k_ => P0_ k_) := by
 unfold slices_SortFunc_Attr.f at h
 by_cases hl : l0.length < 4611686018427387904
 ·
  rw [if_pos hl] at h
  obtain rfl := Option.some.inj h
  rcases Nat.eq_zero_or_pos l0.length with h0 | h0
  ·
   have hn := List.eq_nil_of_length_eq_zero h0
   subst hn
   obtain ⟨A, c, rfl⟩ := Kd.R_slice ho0
   have hcon := AnyF.slices_SortFunc_none Tryz.laySort A c (.func (.func 33) #[] #[]) w
   change Calls Tryz.prog 32 _ _ _ at hcon
   refine hcon.mono fun e w' ⟨he, hw⟩ => ?_
   subst hw
   exact ⟨he, by rw [sorted45_nil]; exact Kd.R_mono ho0 (fun k hk => .inl hk), hB, Kept.refl _ _⟩
  ·
   obtain ⟨g, cap, rfl, hbase, hlt, hok, hH⟩ := flat45.holds ho0 h0
   have eg : ∀ args w, (callFunc 33 args).run Tryz.prog w = .ok (.enter 33 args) w := enters_of Tryz.func33 (by kernel_rfl) rfl
   have hcon := AnyQ.slices_SortFunc_eq Tryz.laySort 2 Tryz.isAgg45 Tryz.sizeOf45 enc45 (fun _ => rfl) (fun x => flat45.one x) cmpKey swoKey 33 #[] g 0 cap l0.toArray w eg (cmpLays33 g 0 _ w) hH hlt (by simpa using hl)
   change Calls Tryz.prog 32 _ _ _ at hcon
   have hsz : l0.toArray.size = l0.length := by simp
   refine Calls.mono (by rw [hsz] at hcon; exact hcon) ?_
   rintro e w' ⟨he, n, os, rfl⟩
   refine ⟨he, ?_, sw_below _ _ w0 w g n _ os hB hbase, (sw_kept _ _ w g n _ os).mono (fun k hk => by subst hk; exact hok)⟩
   have hR := flat45.sorted (n := n) ho0 (Sort.pdq (ltOf cmpKey) l0.toArray 0 l0.toArray.size (Lib.bitLen l0.toArray.size) true true) (by have := (sorted45_perm l0).2.1; unfold sorted45 at this; simpa using this) os
   rw [hsz] at hR
   unfold sorted45
   rw [hsz]
   exact Kd.R_mono hR (fun k hk => .inl hk)
 ·
  rw [if_neg hl] at h
  cases h
end Go.Proofs.YtnfanpjfhdlddaaGreatDoor.Pr
end
