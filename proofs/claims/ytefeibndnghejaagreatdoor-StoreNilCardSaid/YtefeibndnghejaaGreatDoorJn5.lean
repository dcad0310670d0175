import Derived.Test.YtefeibndnghejaaGreatDoorProg
import Derived.Below
import Derived.Deep.Draws
import Derived.Deep.AppendLies
import Derived.Maps.AppendAt
import Derived.OwnWalk
import Derived.Laws.BytesArg
import Derived.Laws.MakeOwn
import Derived.Laws.OwnMore
import Derived.Deep.OwnRows
import Derived.Tactics
import Derived.Lib.ConvBytes
import Derived.Laws.Slices
import Derived.WalkKit
import Derived.KernelRfl
import Derived.RowKit3
import Derived.Deep.LoopGhost
import Derived.Deep.QuietTactic
import Derived.BigQuiet
import Derived.WideLaws
import Derived.Deep.DeepCutAuto
import Derived.Deep.CutBlock
import Derived.Deep.RegionHeld3
import Derived.Laws.Rows
import Derived.Lib.AppendStr
import Derived.ArgAppend
import Derived.Laws.IdiomCopy
import Derived.OrdersHeld
import Derived.Laws.BitsLemmas
import Derived.RowKit
import Derived.Test.YtefeibndnghejaaGreatDoorJn3
import Derived.Test.YtefeibndnghejaaGreatDoorJn1
import Derived.Test.YtefeibndnghejaaGreatDoorJn2
import Derived.Test.YtefeibndnghejaaGreatDoorJn4
import Derived.Sort.Row
import Derived.Shelf.GgSortFunc.RowK
import Derived.Shelf.GgSortFunc.InsertionK
import Derived.Shelf.Small.Strs
import Derived.Shelf.Strings.Search3
import Derived.Shelf.Unicode.ValidAny
import Derived.Test.YtefeibndnghejaaGreatDoorRows
import Derived.Deep.Slices
import Derived.Deep.Fields
import Derived.ChangeSame
import Derived.ChangeArms
import Derived.Lib.LaidU8T
import Derived.HandedShaped
import Derived.Handed
import Derived.Shelf.Vars
import Derived.SizedLaws
import Derived.Maps.OwnSet
import Derived.Maps.Views
import Derived.StringKeys
import Derived.ChangeKeysEq
import Derived.DeepKeys4
section
namespace Go.Proofs.YtefeibndnghejaaGreatDoor.Pr
open Go.RowKit Go.Proofs.YtefeibndnghejaaGreatDoorW.PrintWords Go.Proofs.YtefeibndnghejaaGreatDoorW.PrintLast Go.Proofs.YtefeibndnghejaaGreatDoorW.PrintMore
attribute [local go_sem] max2_int min2_int max_two min_two max_three min_three max_four min_four strGtr strLeq strGeq
set_option linter.unusedVariables false
set_option linter.unusedSimpArgs false
def errW : Option Int → Value
  | none => .nilIface
  | some c => .iface 0 (.int .i64 c)
theorem errW_none : errW none = .nilIface := rfl
theorem errW_some (c : Int) : errW (some c) = .iface 0 (.int .i64 c) := rfl
theorem info85 : (Tryz.prog.info? 85).map (fun i => (i.zero, i.size, i.bytes)) = some (some (.agg #[(.string ⟨#[]⟩), (.string ⟨#[]⟩)]), 2, 32) := by kernel_rfl
structure S85 where
  f0 : ByteArray
  f1 : ByteArray
def z85 : S85 := ⟨(⟨#[]⟩ : ByteArray), (⟨#[]⟩ : ByteArray)⟩
def k85 : Kd S85 := Kd.iso (Kd.pair Kd.string Kd.string) (fun x : S85 => (x.f0, x.f1))
theorem k85_open {w : World} {x : S85} {cs : List Value} (h : k85.K w x cs) : cs = [.string x.f0, .string x.f1] := by
 obtain ⟨_, _, rfl, rfl, rfl⟩ := h
 exact rfl
theorem k85_openM {w : World} {base : Nat} {ok : Nat → Prop} {x : S85} {cs : List Value} (h : k85.M w base ok x cs) : cs = [.string x.f0, .string x.f1] := by
 obtain ⟨_, _, rfl, rfl, rfl⟩ := h
 exact rfl
theorem k85_mk (w : World) (x : S85)  : k85.K w x [.string x.f0, .string x.f1] := ⟨[.string x.f0], [.string x.f1], rfl, rfl, rfl⟩
theorem k85_mkM (w : World) (base : Nat) (ok : Nat → Prop) (x : S85)  : k85.M w base ok x [.string x.f0, .string x.f1] := ⟨[.string x.f0], [.string x.f1], rfl, rfl, rfl⟩
def rd_T85 (xs : List S85) (i : Int) : S85 := xs.getD i.toNat z85
theorem at_T85 {w : World} {A : Option Addr} {n : Nat} {xs : List S85} (h : Kd.C k85 w A n xs) (i : Int) (h0 : 0 ≤ i) (h1 : i < n) : ∃ ad , A = some ad ∧ w.cell? (ad.add (i.toNat * 2)) = some (.string (rd_T85 xs i).f0) ∧ w.cell? ⟨(ad.add (i.toNat * 2)).block, (ad.add (i.toNat * 2)).off + 1, none⟩ = some (.string (rd_T85 xs i).f1) := by
 obtain ⟨ad, c, e, _, hK, hc0⟩ := Kd.C_get h z85 i h0 h1
 have hc : ∀ j u, c[j]? = some u → w.cell? (ad.add (i.toNat * 2 + j)) = some u := hc0
 obtain rfl := k85_open hK
 exact ⟨ad, e, hc 0 _ rfl, by rw [← add_field _ _ 1 (by omega)]; exact hc 1 _ rfl⟩
structure S106 where
  f0 : Int
  f1 : ByteArray
  f2 : ByteArray
def z106 : S106 := ⟨(0 : Int), (⟨#[]⟩ : ByteArray), (⟨#[]⟩ : ByteArray)⟩
end Go.Proofs.YtefeibndnghejaaGreatDoor.Pr
end
section
set_option linter.unusedVariables false
set_option linter.unusedSimpArgs false
namespace Go.Proofs.YtefeibndnghejaaGreatDoor.Pr
open Go.RowKit Go.Proofs.YtefeibndnghejaaGreatDoorW.PrintWords Go.Proofs.YtefeibndnghejaaGreatDoorW.PrintLast Go.Proofs.YtefeibndnghejaaGreatDoorW.PrintMore
structure Flat {α : Type} (d : Kd α) (enc : α → List Value) : Prop where
  K : ∀ {w x cs}, d.K w x cs → cs = enc x
  K' : ∀ w x, d.K w x (enc x)
  M : ∀ {w base ok x cs}, d.M w base ok x cs → cs = enc x
  M' : ∀ w base ok x, d.M w base ok x (enc x)
section
variable {α : Type} {d : Kd α} {enc : α → List Value}
theorem Flat.len (F : Flat d enc) (x : α) : (enc x).length = d.sz := d.K_len (F.K' default x)
theorem Flat.one (F : Flat d enc) (x : α) : ∀ u ∈ enc x, u.oneCell' = true := d.K_one (F.K' default x)
theorem flat_len (k : Nat) (hk : ∀ x, (enc x).length = k) : ∀ xs : List α, (xs.flatMap enc).length = xs.length * k
 | [] => by simp
 | x :: r => by rw [List.flatMap_cons, List.length_append, flat_len k hk r, hk]; simp [Nat.add_mul, Nat.add_comm]
theorem flat_seg (k : Nat) (hk : ∀ x, (enc x).length = k) : ∀ (xs : List α) (j : Nat) (p : α), xs[j]? = some p → ((xs.flatMap enc).drop (j * k)).take k = enc p
 | [], j, p, h => by simp at h
 | x :: r, 0, p, h => by
  have : x = p := by simpa using h
  subst this
  rw [List.flatMap_cons, Nat.zero_mul, List.drop_zero, List.take_append_of_le_length (by rw [hk]; exact Nat.le_refl _), List.take_of_length_le (by rw [hk]; exact Nat.le_refl _)]
 | x :: r, j + 1, p, h => by
  have h' : r[j]? = some p := by simpa using h
  rw [List.flatMap_cons, Nat.add_mul, Nat.one_mul, Nat.add_comm, List.drop_append, hk, List.drop_of_length_le (by rw [hk]; omega), List.nil_append, show k + j * k - k = j * k by omega]
  exact flat_seg k hk r j p h'
theorem flat_get (k : Nat) (hk : ∀ x, (enc x).length = k) (xs : List α) (j i : Nat) (p : α) (hj : xs[j]? = some p) (hi : i < k) : (xs.flatMap enc)[j * k + i]? = (enc p)[i]? := by
 have h := flat_seg k hk xs j p hj
 rw [← h, List.getElem?_take, if_pos hi, List.getElem?_drop]
theorem flat_split (k : Nat) (hk : ∀ x, (enc x).length = k) (xs : List α) (t : Nat) (u : Value) (h : (xs.flatMap enc)[t]? = some u) : ∃ j i p, t = j * k + i ∧ i < k ∧ xs[j]? = some p ∧ (enc p)[i]? = some u := by
  have hl := (List.getElem?_eq_some_iff.1 h).1
  rw [flat_len k hk] at hl
  have hk0 : 0 < k := by rcases Nat.eq_zero_or_pos k with h0 | h0
                         · subst h0; simp at hl
                         · exact h0
  have hj : t / k < xs.length := by rw [Nat.div_lt_iff_lt_mul hk0]; exact hl
  refine ⟨t / k, t % k, xs[t / k], by rw [Nat.mul_comm]; exact (Nat.div_add_mod t k).symm, Nat.mod_lt _ hk0, List.getElem?_eq_getElem hj, ?_⟩
  rw [← flat_get k hk xs (t / k) (t % k) _ (List.getElem?_eq_getElem hj) (Nat.mod_lt _ hk0), show t / k * k + t % k = t by rw [Nat.mul_comm]; exact Nat.div_add_mod t k]
  exact h
theorem flat_of_segs (k : Nat) (hk : ∀ x, (enc x).length = k) : ∀ (xs : List α) (cs : List Value), cs.length = xs.length * k → (∀ j p, xs[j]? = some p → (cs.drop (j * k)).take k = enc p) → cs = xs.flatMap enc
 | [], cs, h, _ => by simpa using h
 | x :: r, cs, h, hs => by
  have h0 := hs 0 x rfl
  rw [Nat.zero_mul, List.drop_zero] at h0
  rw [List.flatMap_cons, ← h0, ← flat_of_segs k hk r (cs.drop k) (by rw [List.length_drop, h]; simp [Nat.add_mul]) (fun j p hj => by
   have := hs (j + 1) p (by simpa using hj)
   rw [List.drop_drop]
   rwa [Nat.add_mul, Nat.one_mul, Nat.add_comm] at this), List.take_append_drop]
theorem Flat.reps (F : Flat d enc) {R : α → List Value → Prop} (hR : ∀ {x cs}, R x cs → cs = enc x) {xs : List α} {cs : List Value} (h : Reps R d.sz xs cs) : cs = xs.flatMap enc :=
 flat_of_segs d.sz F.len xs cs h.1 (fun j p hj => hR (h.2 j p hj))
theorem Flat.reps' (F : Flat d enc) {R : α → List Value → Prop} (hR : ∀ x, R x (enc x)) (xs : List α) : Reps R d.sz xs (xs.flatMap enc) :=
 ⟨flat_len d.sz F.len xs, fun j p hj => by rw [flat_seg d.sz F.len xs j p hj]; exact hR p⟩
theorem Flat.C (F : Flat d enc) {w : World} {A : Option Addr} {n : Nat} {xs : List α} (h : d.C w A n xs) : xs.length = n ∧ n ≤ 9223372036854775807 ∧ (0 < n → ∃ ad, A = some ad ∧ ∀ j u, (xs.flatMap enc)[j]? = some u → w.cell? (ad.add j) = some u) := by
 refine ⟨h.1, h.2.1, fun hn => ?_⟩
 obtain ⟨ad, e, hc⟩ := h.2.2 hn
 refine ⟨ad, e, fun t u hu => ?_⟩
 obtain ⟨j, i, p, rfl, hi, hj, hp⟩ := flat_split d.sz F.len xs t u hu
 obtain ⟨c, hs, hr, hcell⟩ := hc j p hj
 obtain rfl := F.K hr
 exact hcell i u hp
theorem Flat.C' (F : Flat d enc) {w : World} {A : Option Addr} {xs : List α} (hm : xs.length ≤ 9223372036854775807) (h : 0 < xs.length → ∃ ad, A = some ad ∧ ∀ j u, (xs.flatMap enc)[j]? = some u → w.cell? (ad.add j) = some u) : d.C w A xs.length xs := by
 refine ⟨rfl, hm, fun hn => ?_⟩
 obtain ⟨ad, e, hc⟩ := h hn
 refine ⟨ad, e, fun j p hj => ⟨enc p, F.len p, F.K' w p, fun i u hu => hc _ u ?_⟩⟩
 have hi := (List.getElem?_eq_some_iff.1 hu).1
 rw [F.len] at hi
 rw [flat_get d.sz F.len xs j i p hj hi]
 exact hu
theorem Flat.R (F : Flat d enc) {e : Nat} {w : World} {base : Nat} {ok : Nat → Prop} {v : Value} {xs : List α} (h : d.R e w base ok v xs) : (∀ k, v.ownBlock = some k → ok k) ∧ w.ownsRow base e d.sz v xs.length (xs.flatMap enc) := by
 obtain ⟨h0, inner, ho, hr⟩ := h
 obtain rfl := F.reps (R := _) (fun hp => F.M hp) hr
 exact ⟨h0, ho⟩
theorem Flat.R' (F : Flat d enc) {e : Nat} {w : World} {base : Nat} {ok : Nat → Prop} {v : Value} {xs : List α} (h0 : ∀ k, v.ownBlock = some k → ok k) (ho : w.ownsRow base e d.sz v xs.length (xs.flatMap enc)) : d.R e w base ok v xs :=
 ⟨h0, _, ho, F.reps' (fun x => F.M' w base _ x) xs⟩
end
theorem flatK_eq {α : Type} [Inhabited α] (enc : α → List Value) (k : Nat) (hk : ∀ x, (enc x).length = k) (xs : List α) : (Sort.flatK enc k xs.toArray).toList = xs.flatMap enc := by
  apply List.ext_getElem?
  intro t
  by_cases ht : t < xs.length * k
  · have hk0 : 0 < k := by rcases Nat.eq_zero_or_pos k with h0 | h0
                           · subst h0; simp at ht
                           · exact h0
    have hj : t / k < xs.length := by rw [Nat.div_lt_iff_lt_mul hk0]; exact ht
    have hi := Nat.mod_lt t hk0
    have e1 : (xs.flatMap enc)[t]? = (enc xs[t / k])[t % k]? := by
      rw [← flat_get k hk xs (t / k) (t % k) _ (List.getElem?_eq_getElem hj) hi, show t / k * k + t % k = t by rw [Nat.mul_comm]; exact Nat.div_add_mod t k]
    have hs : t < (Sort.flatK enc k xs.toArray).size := by simpa using ht
    have hlen : t % k < (enc xs[t / k]).length := by rw [hk]; exact hi
    have e0 : xs.toArray[t / k]! = xs[t / k] := by rw [getElem!_pos xs.toArray (t / k) (by simpa using hj)]; simp
    have e2 := Sort.get_flatK enc k xs.toArray t (by simpa using ht)
    rw [e0, getElem!_pos (Sort.flatK enc k xs.toArray) t hs, getElem!_pos (enc xs[t / k]) (t % k) hlen] at e2
    rw [e1, List.getElem?_eq_getElem hlen, List.getElem?_eq_getElem (by simpa using ht), Array.getElem_toList, e2]
  · rw [List.getElem?_eq_none (by simp; omega), List.getElem?_eq_none (by rw [flat_len k hk]; omega)]
end Go.Proofs.YtefeibndnghejaaGreatDoor.Pr
end
section
set_option linter.unusedVariables false
set_option linter.unusedSimpArgs false
namespace Go.Proofs.YtefeibndnghejaaGreatDoor.Pr
open Go.RowKit Go.Proofs.YtefeibndnghejaaGreatDoorW.PrintWords Go.Proofs.YtefeibndnghejaaGreatDoorW.PrintLast Go.Proofs.YtefeibndnghejaaGreatDoorW.PrintMore
def enc85 (x : S85) : List Value := [.string x.f0, .string x.f1]
theorem flat85 : Flat k85 enc85 := ⟨fun h => k85_open h, fun w x => k85_mk w x, fun h => k85_openM h, fun w b ok x => k85_mkM w b ok x⟩
instance : Inhabited S85 := ⟨z85⟩
instance : Inhabited S106 := ⟨z106⟩
end Go.Proofs.YtefeibndnghejaaGreatDoor.Pr
end
section
namespace Go.Proofs
open Go.Shelf
def Tryz.lays106_ren : Go.Shelf.Ren := ⟨fun | 106 => 89 | 213 => 110 | 265 => 128 | n => n, fun | 9 => 9 | 3 => 3 | n => n, fun | n => n⟩
theorem Tryz.lays106 : Go.Proofs.Lays.n106 Tryz.prog Tryz.lays106_ren := {
 mixed := by kernel_rfl
 f106 := Tryz.func89.trans (congrArg some (by kernel_rfl))
 f213 := Tryz.func110.trans (congrArg some (by kernel_rfl))
 f265 := Tryz.func128.trans (congrArg some (by kernel_rfl))
 t3 := Tryz.underlying3
 a3 := Tryz.isAgg3
 z3 := Tryz.sizeOf3
 v3 := Tryz.zeroValue3
 t9 := Tryz.underlying9
 a9 := Tryz.isAgg9
 z9 := Tryz.sizeOf9
 v9 := Tryz.zeroValue9 }
open Go.RowKit in
theorem Tryz.strings_Compare (a b : ByteArray) (w : World) :
  Calls Tryz.prog 89 #[.string a, .string b] w fun e w' => e = .returned (.int .i64 (Lib.compareBytes a.data.toList b.data.toList)) ∧ w' = w := Any.strings_Compare Tryz.lays106 a b w
def Tryz.lays196_ren : Go.Shelf.Ren := ⟨fun | 196 => 145 | 259 => 169 | n => n, fun | 9 => 9 | 4 => 4 | 3 => 3 | 5 => 5 | 12 => 12 | 119 => 210 | 0 => 0 | 46 => 151 | 139 => 213 | 138 => 212 | 53 => 192 | n => n, fun | 3 => 1 | 4 => 2 | n => n⟩
theorem Tryz.lays196 : Go.Proofs.Lays.n196 Tryz.prog Tryz.lays196_ren := {
 mixed := by kernel_rfl
 f196 := Tryz.func145.trans (congrArg some (by kernel_rfl))
 f259 := Tryz.func169.trans (congrArg some (by kernel_rfl))
 t0 := Tryz.underlying0
 a0 := Tryz.isAgg0
 z0 := Tryz.sizeOf0
 v0 := Tryz.zeroValue0
 t3 := Tryz.underlying3
 a3 := Tryz.isAgg3
 z3 := Tryz.sizeOf3
 v3 := Tryz.zeroValue3
 t4 := Tryz.underlying4
 a4 := Tryz.isAgg4
 z4 := Tryz.sizeOf4
 v4 := Tryz.zeroValue4
 t5 := Tryz.underlying5
 a5 := Tryz.isAgg5
 z5 := Tryz.sizeOf5
 v5 := Tryz.zeroValue5
 t9 := Tryz.underlying9
 a9 := Tryz.isAgg9
 z9 := Tryz.sizeOf9
 v9 := Tryz.zeroValue9
 t12 := Tryz.underlying12
 a12 := Tryz.isAgg12
 z12 := Tryz.sizeOf12
 v12 := Tryz.zeroValue12
 t46 := Tryz.underlying151
 a46 := Tryz.isAgg151
 z46 := Tryz.sizeOf151
 v46 := Tryz.zeroValue151
 t53 := Tryz.underlying192
 a53 := Tryz.isAgg192
 z53 := Tryz.sizeOf192
 v53 := Tryz.zeroValue192
 t119 := Tryz.underlying210
 a119 := Tryz.isAgg210
 z119 := Tryz.sizeOf210
 t138 := Tryz.underlying212
 a138 := Tryz.isAgg212
 z138 := Tryz.sizeOf212
 v138 := Tryz.zeroValue212
 t139 := Tryz.underlying213
 a139 := Tryz.isAgg213
 z139 := Tryz.sizeOf213
 v139 := Tryz.zeroValue213
 g3 := by kernel_rfl
 g4 := by kernel_rfl }
end Go.Proofs
end
section
set_option linter.unusedVariables false
set_option linter.unusedSimpArgs false
namespace Go.Proofs.YtefeibndnghejaaGreatDoor.Pr
open Go Go.RowKit Go.ChangeShapes Go.WideShapes Go.Deep Go.Proofs.YtefeibndnghejaaGreatDoorW.PrintWords Go.Proofs.YtefeibndnghejaaGreatDoorW.PrintLast Go.Proofs.YtefeibndnghejaaGreatDoorW.PrintMore
section
variable {H : Type} {enc : TypeId × Value → H} {P : Program} {w : World} {base : Nat} {spare : Nat → Bool} {held : Bool}
theorem open_slice_fields {t e : TypeId} {fs : Array Field} {fuel : Nat} {cs : List Value} {x : DataW H × List MemPlace} (ht : P.underlying t = some (.slice e)) (he : P.underlying e = some (.struct fs))
  (hone : oneCellFields P fs = true) (hC : P.cellsOf e = fs.size) (h : DataW.trod enc P w base spare held fuel t cs = some x) :
  (cs = [.slice none 0 0] ∧ x = (.nil, [])) ∨
  ∃ (a : Addr) (len cap m : Nat) (D : Nat → DataW H) (Pl : Nat → List MemPlace), cs = [.slice (some a) len cap] ∧ base ≤ a.block ∧ len ≤ cap ∧ cap ≤ maxLen ∧ m = (if spare a.block then cap else len) ∧
   x = (.slice ((List.range len).map D) ((List.range (m - len)).map fun j => D (len + j)), MemPlace.row a (m * fs.size) ++ (List.range m).flatMap Pl) ∧
   ∀ i, i < m → ∃ (ys : List (DataW H × List MemPlace)) (n : Nat), D i = .agg (ys.map (·.1)) ∧ Pl i = ys.flatMap (·.2) ∧ ys.length = fs.size ∧
    ∀ (j : Nat) (f : Field), fs[j]? = some f → ∃ (v : Value) (y : DataW H × List MemPlace), w.cell? (a.add (i * fs.size + j)) = some v ∧ ys[j]? = some y ∧ DataW.trod enc P w base spare held n f.type [v] = some y := by
 rcases open_slice ht h with h0 | ⟨a, len, cap, m, n, D, Pl, hcs, hb, hl, hm, hmm, hx, hi⟩
 ·
  exact .inl h0
 ·
  refine .inr ⟨a, len, cap, m, D, Pl, hcs, hb, hl, hm, hmm, by rw [hC] at hx; exact hx, fun i him => ?_⟩
  obtain ⟨cs', hc, ht'⟩ := hi i him
  rw [hC] at hc
  obtain ⟨ys, n', hn', hy, hlen, hyl, hf⟩ := DataW.trod_struct he ht'
  obtain ⟨_, hcl, hat⟩ := World.cells?_some hc
  simp only [Prod.mk.injEq] at hy
  refine ⟨ys, n', hy.1, hy.2, hyl, fun j f hj => ?_⟩
  obtain ⟨ho, hk⟩ := hone_of hone j f hj
  have hjl : j < fs.size := (Array.getElem?_eq_some_iff.1 hj).1
  have hcell := hat j hjl
  have hv : cs'[j]? = some (cs'[j]'(by omega)) := List.getElem?_eq_getElem (by omega)
  have h1 := hf j f hj
  rw [ho, hk] at h1
  have hone' : (cs'.drop j).take 1 = [cs'[j]'(by omega)] := by
   rw [List.drop_eq_getElem_cons (by omega)]
   rfl
  rw [hone'] at h1
  have hys : ys[j]? = some (ys[j]'(by omega)) := List.getElem?_eq_getElem (by omega)
  refine ⟨_, _, ?_, hys, h1.trans hys⟩
  rw [← Go.Deep.add_add, hcell, hv]
end
theorem list_of {α : Type} {Q : Nat → α → Prop} : ∀ n, (∀ i, i < n → ∃ x, Q i x) → ∃ xs : List α, xs.length = n ∧ ∀ i x, xs[i]? = some x → Q i x
 | 0, _ => ⟨[], rfl, fun i x h => by simp at h⟩
 | n + 1, h => by
  obtain ⟨xs, hl, hx⟩ := list_of n (fun i hi => h i (by omega))
  obtain ⟨x, hq⟩ := h n (by omega)
  refine ⟨xs ++ [x], by simp [hl], fun i y hy => ?_⟩
  rcases Nat.lt_or_ge i n with hi | hi
  ·
   rw [List.getElem?_append_left (by omega)] at hy; exact hx i y hy
  ·
   rw [List.getElem?_append_right (by omega)] at hy
   have : i = n := by
    have := (List.getElem?_eq_some_iff.1 hy).1
    simp at this; omega
   subst this
   simp [hl] at hy
   subst hy; exact hq
theorem u8extra : Go.Proofs.U8Extra Tryz.prog Tryz.lays196_ren := ⟨by kernel_rfl, by kernel_rfl, by kernel_rfl, by kernel_rfl, by kernel_rfl, by kernel_rfl, by kernel_rfl⟩
theorem first_data : (Rows.laid_unicode_utf8_first : DataW Unit) = Lib.firstData := by kernel_rfl
theorem accept_data : (Rows.laid_unicode_utf8_acceptRanges : DataW Unit) = Lib.acceptData := by kernel_rfl
theorem env_of_laid {W : World} (h : laidMet Tryz.prog [("unicode/utf8.acceptRanges", Rows.laid_unicode_utf8_acceptRanges), ("unicode/utf8.first", Rows.laid_unicode_utf8_first)] W) (hs : W.ShapedOpen Tryz.prog) : EnvW W := by
 rw [first_data, accept_data] at h
 exact ⟨Go.Proofs.utf8Tabs_of_readsT (Go.Proofs.U8Types.of196 Tryz.lays196) u8extra (Lib.laidMet.reads h (by simp)) (Lib.laidMet.reads h (by simp)),
  cell_of_shapedOpen_int (zero := #[.int .i64 0]) (t := 3) hs (of_decide_eq_true (by kernel_rfl)) (by kernel_rfl) rfl (by kernel_rfl) (by kernel_rfl) Tryz.underlying3⟩
theorem wrap_and_shaped {H : Type} {enc : TypeId × Value → H} {a : Assume} {C : Checked} {os : Os} {f : FuncId} {fn : Func} {s : ChangeSpec} {conds : List PathCond} {apart fresh handsOn again : Bool} {X : World → Array Value → Prop}
  (hX : ∀ (w w' : World) (args : Array Value), w.heap = w'.heap → X w args → X w' args)
  (own : ownKnob C.prog.godebug = none) (started : os.Started) (noInit : C.prog.inits.idxOf? f = none) (hfn : C.prog.funcs[f]? = some fn)
  (witness : ∃ (w : World) (tape : Tape) (i : Input), w.os = os ∧ (w.forCall tape i).Shaped C.prog ∧ i.vars = [] ∧ Input.okWide C.prog (w.forCall tape i) .any w.heap.size f i ∧
   ((s.pre enc C.prog fn conds apart (w.forCall tape i).memory i.args ∧ X (w.forCall tape i).memory i.args) ∧ sizedMet enc C.prog fn (OpenSpec.ofChange s) apart (w.forCall tape i).memory i.args) ∧ a.holds C.prog (lone (Frame.enter C.prog f i.args .normal) [] (w.forCall tape i)))
  (contract : ∀ (W : World) (base : Nat) (args : Array Value) (ds gs : List (DataW H)) (before : List MemPlace),
   (∀ (j : Nat) t v, fn.params[j]? = some t → args[j]? = some v → Value.okWide C.prog W .any base t v) →
   DataW.Whole enc C.prog fn.params.toList s.vars apart W args.toList ds gs before →
   conds.all (PathCond.test C.prog ⟨fn.params.toList, ds, s.plain.varTypes C.prog, gs⟩) = true →
   (DataW.weightsEach C.prog (fn.params.toList ++ s.plain.varTypes C.prog) (ds ++ gs)).all (· ≤ reachBytes) = true → X W args → W.ShapedOpen C.prog →
   a.holds C.prog (lone (Frame.enter C.prog f args .normal) [] W) →
   Calls C.prog f args W fun e W' => ∃ v, e = .returned v ∧ s.post enc C.prog fn apart fresh handsOn again W args v W') :
  ReturnsInHanded a C os f .any (fun w args => (s.pre enc C.prog fn conds apart w args ∧ X w args) ∧ sizedMet enc C.prog fn (OpenSpec.ofChange s) apart w args) (s.post enc C.prog fn apart fresh handsOn again) := by
 refine returnsInHanded_of_calls own started noInit witness ?_
 intro w tape i _ hsh _ hok hpre hholds
 obtain ⟨_, _, _, fn', hfn', _, _, _, _, hval⟩ := hok
 have e : fn' = fn := Option.some.inj (hfn'.symm.trans hfn)
 subst e
 obtain ⟨⟨⟨ds, gs, before, hw, hc⟩, hx⟩, hz⟩ := hpre
 have hw' := DataW.Whole.of_heap (w' := w.forCall tape i) (by rfl) hw
 refine (contract (w.forCall tape i) w.heap.size i.args ds gs before hval hw' hc (hz.weights hw) (hX _ _ _ (by rfl) hx) hsh hholds).mono fun e W' ⟨v, he, hp⟩ => ?_
 subst he
 exact ChangeSpec.post_blind hp
end Go.Proofs.YtefeibndnghejaaGreatDoor.Pr
end
section
set_option linter.unusedVariables false
set_option linter.unusedSimpArgs false
namespace Go.Proofs.YtefeibndnghejaaGreatDoor.Pr
open Go.RowKit Go.Proofs.YtefeibndnghejaaGreatDoorW.PrintWords Go.Proofs.YtefeibndnghejaaGreatDoorW.PrintLast Go.Proofs.YtefeibndnghejaaGreatDoorW.PrintMore
structure Chg (F : Nat → Prop) (w w' : World) : Prop where
  os : w'.os = w.os
  tape : w'.tape = w.tape
  output : w'.output = w.output
  size : w.heap.size ≤ w'.heap.size
  block : ∀ k, k < w.heap.size → ¬ F k → w'.heap[k]? = w.heap[k]?
theorem Chg.refl (F : Nat → Prop) (w : World) : Chg F w w := ⟨rfl, rfl, rfl, Nat.le_refl _, fun _ _ _ => rfl⟩
theorem Chg.trans {F G : Nat → Prop} {a b c : World} (h : Chg F a b) (k : Chg G b c) (hG : ∀ q, G q → F q ∨ a.heap.size ≤ q) : Chg F a c :=
 ⟨k.os.trans h.os, k.tape.trans h.tape, k.output.trans h.output, Nat.le_trans h.size k.size, fun q hq hF =>
  (k.block q (Nat.lt_of_lt_of_le hq h.size) (fun e => (hG q e).elim hF (fun e' => by omega))).trans (h.block q hq hF)⟩
theorem Chg.of_below {F : Nat → Prop} {a b : World} (h : Below a.heap.size a b) : Chg F a b := ⟨h.os, h.tape, h.output, h.size, fun q hq _ => h.block q hq⟩
theorem Chg.mono {F G : Nat → Prop} {a b : World} (h : Chg F a b) (hG : ∀ q, F q → G q) : Chg G a b := ⟨h.os, h.tape, h.output, h.size, fun q hq hn => h.block q hq (fun e => hn (hG q e))⟩
theorem Chg.below {F : Nat → Prop} {a b : World} {B : Nat} (h : Chg F a b) (hF : ∀ q, F q → B ≤ q) (hB : B ≤ a.heap.size) : Below B a b :=
 ⟨h.os, h.tape, h.output, h.size, fun q hq => h.block q (by omega) (fun e => by have := hF q e; omega)⟩
theorem Chg.grown {F : Nat → Prop} {a b : World} {row : Option Nat} (h : a.grownBy b row) (hr : ∀ q, row = some q → F q) : Chg F a b :=
 ⟨h.os, h.tape, h.output, h.size, fun q hq hn => h.block q hq (fun e => hn (hr q e.symm))⟩
theorem Chg.then_below {F : Nat → Prop} {a b c : World} (h : Chg F a b) (k : Below b.heap.size b c) : Chg F a c := h.trans (G := F) (Chg.of_below k) (fun q hq => .inl hq)
theorem Chg.setCell {F : Nat → Prop} {a : World} {p : Addr} (hp : F p.block) (u : Value) : Chg F a (a.setCell p u) :=
 ⟨rfl, rfl, rfl, by simp [World.setCell], fun q hq hn => Below.heap_setCell _ _ _ _ (fun e => hn (e ▸ hp))⟩
def RH (v : Value) : Option (DataW Value × List MemPlace) := some (.held v, [])
def zN : DataW Value := .held (.slice none 0 0)
theorem ownsMap_step {w w' : World} {P : Program} {k : TypeId} {R : Value → Option (DataW Value × List MemPlace)} {b n : Nat} {D : DataW Value} (h : w.ownsMap P k R b n D) (hb : w'.heap[b]? = w.heap[b]?) : w'.ownsMap P k R b n D := by
 obtain ⟨es, clock, h1, r⟩ := h
 exact ⟨es, clock, hb.trans h1, r⟩
theorem row_no_map {α : Type} {d : Kd α} {e base : Nat} {ok : Nat → Prop} {w : World} {v : Value} {xs : List α} (h : d.R e w base ok v xs) {P : Program} {k : TypeId} {R : Value → Option (DataW Value × List MemPlace)} {b n : Nat} {D : DataW Value} (hm : w.ownsMap P k R b n D) : d.R e w base (fun k => ok k ∧ k ≠ b) v xs := by
 obtain ⟨es, clock, h1, _⟩ := hm
 refine Kd.R_mono (Kd.R_bound h) (fun k hk => ⟨hk.1, fun e' => ?_⟩)
 obtain ⟨_, _, _, q, _, cells, hc⟩ := hk
 subst e'
 rw [h1] at hc
 cases hc
structure MMade {κ β : Type} (kt el : Nat) (d : Kd β) (dom : κ → Prop) (key : κ → Lit) (w : World) (base : Nat) (F : Nat → Prop) (b n : Nat) (D : DataW Value) (g : Lit → Value) (f : κ → List β) : Prop where
  fb : F b
  bb : base ≤ b
  mp : w.ownsMap Tryz.prog kt RH b n D
  at_ : ∀ kl, D.atKey kl zN = .held (g kl)
  row : ∀ kl, ∃ xs, d.R el w base F (g kl) xs
  rows : ∀ x, dom x → d.R el w base F (g (key x)) (f x)
  ne : ∀ kl kl', kl ≠ kl' → ∀ q, (g kl).ownBlock = some q → (g kl').ownBlock ≠ some q
def MRow {κ β : Type} (kt el : Nat) (d : Kd β) (dom : κ → Prop) (key : κ → Lit) (w : World) (base : Nat) (F : Nat → Prop) (m : Value) (f : κ → List β) (N : Nat) : Prop :=
  (m = .map none ∧ ∀ x, dom x → f x = []) ∨ ∃ b n D g, m = .map (some b) ∧ n ≤ N ∧ MMade kt el d dom key w base F b n D g f
section
variable {κ β : Type} {kt el : Nat} {d : Kd β} {dom : κ → Prop} {key : κ → Lit} {w w' : World} {base : Nat} {F G : Nat → Prop} {m : Value} {f : κ → List β} {N b n : Nat} {D : DataW Value} {g : Lit → Value}
theorem MMade.lt (h : MMade kt el d dom key w base F b n D g f) : b < w.heap.size := h.mp.lt
theorem MMade.step (h : MMade kt el d dom key w base F b n D g f) (hm : ∀ k, F k → k < w.heap.size → w'.heap[k]? = w.heap[k]?) : MMade kt el d dom key w' base F b n D g f :=
 ⟨h.fb, h.bb, ownsMap_step h.mp (hm b h.fb h.lt), h.at_, fun kl => (h.row kl).imp fun _ r => Kd.R_step r hm, fun x hx => Kd.R_step (h.rows x hx) hm, h.ne⟩
theorem MMade.mono (h : MMade kt el d dom key w base F b n D g f) (hG : ∀ k, F k → G k) : MMade kt el d dom key w base G b n D g f :=
 ⟨hG _ h.fb, h.bb, h.mp, h.at_, fun kl => (h.row kl).imp fun _ r => Kd.R_mono r hG, fun x hx => Kd.R_mono (h.rows x hx) hG, h.ne⟩
theorem MMade.bound (h : MMade kt el d dom key w base F b n D g f) : MMade kt el d dom key w base (fun k => F k ∧ base ≤ k ∧ k < w.heap.size) b n D g f :=
 ⟨⟨h.fb, h.bb, h.lt⟩, h.bb, h.mp, h.at_, fun kl => (h.row kl).imp fun _ r => Kd.R_mono (Kd.R_bound r) (fun _ q => ⟨q.1, q.2.1, q.2.2.1⟩), fun x hx => Kd.R_mono (Kd.R_bound (h.rows x hx)) (fun _ q => ⟨q.1, q.2.1, q.2.2.1⟩), h.ne⟩
theorem MMade.f_eq {f' : κ → List β} (h : MMade kt el d dom key w base F b n D g f) (hf : ∀ x, dom x → f' x = f x) : MMade kt el d dom key w base F b n D g f' :=
 ⟨h.fb, h.bb, h.mp, h.at_, h.row, fun x hx => by rw [hf x hx]; exact h.rows x hx, h.ne⟩
theorem MRow.step (h : MRow kt el d dom key w base F m f N) (hm : ∀ k, F k → k < w.heap.size → w'.heap[k]? = w.heap[k]?) : MRow kt el d dom key w' base F m f N := by
 rcases h with h | ⟨b, n, D, g, e, hn, h⟩
 ·
  exact .inl h
 ·
  exact .inr ⟨b, n, D, g, e, hn, h.step hm⟩
theorem MRow.mono (h : MRow kt el d dom key w base F m f N) (hG : ∀ k, F k → G k) : MRow kt el d dom key w base G m f N := by
 rcases h with h | ⟨b, n, D, g, e, hn, h⟩
 ·
  exact .inl h
 ·
  exact .inr ⟨b, n, D, g, e, hn, h.mono hG⟩
theorem MRow.bound (h : MRow kt el d dom key w base F m f N) : MRow kt el d dom key w base (fun k => F k ∧ base ≤ k ∧ k < w.heap.size) m f N := by
 rcases h with h | ⟨b, n, D, g, e, hn, h⟩
 ·
  exact .inl h
 ·
  exact .inr ⟨b, n, D, g, e, hn, h.bound⟩
theorem MRow.f_eq {f' : κ → List β} (h : MRow kt el d dom key w base F m f N) (hf : ∀ x, dom x → f' x = f x) : MRow kt el d dom key w base F m f' N := by
 rcases h with ⟨e, h⟩ | ⟨b, n, D, g, e, hn, h⟩
 ·
  exact .inl ⟨e, fun x hx => (hf x hx).trans (h x hx)⟩
 ·
  exact .inr ⟨b, n, D, g, e, hn, h.f_eq hf⟩
theorem MRow.more {N' : Nat} (h : MRow kt el d dom key w base F m f N) (hN : N ≤ N') : MRow kt el d dom key w base F m f N' := by
 rcases h with h | ⟨b, n, D, g, e, hn, h⟩
 ·
  exact .inl h
 ·
  exact .inr ⟨b, n, D, g, e, Nat.le_trans hn hN, h⟩
theorem MRow.nil (kt el : Nat) (d : Kd β) (dom : κ → Prop) (key : κ → Lit) (w : World) (base : Nat) (F : Nat → Prop) (N : Nat) {f : κ → List β} (hf : ∀ x, dom x → f x = []) : MRow kt el d dom key w base F (.map none) f N := .inl ⟨rfl, hf⟩
theorem MMade.new (kt el : Nat) (d : Kd β) (dom : κ → Prop) (key : κ → Lit) (w : World) (base : Nat) (F : Nat → Prop) {f : κ → List β} (hf : ∀ x, dom x → f x = []) (hb : base ≤ w.heap.size) (hF : F w.heap.size) :
  MMade kt el d dom key (w.alloc (.map #[] 0)) base F w.heap.size 0 (.map []) (fun _ => .slice none 0 0) f :=
 ⟨hF, hb, World.ownsMap_made _ _ _ _, fun _ => rfl, fun _ => ⟨[], Kd.R_nil _ _ _ _ _⟩, fun x hx => by rw [hf x hx]; exact Kd.R_nil _ _ _ _ _, fun _ _ _ _ e => by cases e⟩
variable {t E : Nat} (K : Go.Maps.Keyed Tryz.prog kt) (ht : Tryz.prog.underlying t = some (.map kt E))
include K ht
theorem MMade.look (h : MMade kt el d dom key w base F b n D g f) (hz : (zeroValue E).run Tryz.prog w = .ok (.slice none 0 0) w) {k : Value} {kl : Lit} (hk : keyOf Tryz.prog kt k = some kl) :
  (Instr.lookup t (.map (some b)) k false).run Tryz.prog w = .ok (g kl) w := by
 obtain ⟨v, ps, hr, hv⟩ := h.mp.lookup K ht hz (show RH (.slice none 0 0) = some (zN, []) from rfl) hk
 rw [hr]
 have hv' : DataW.held v = D.atKey kl zN := (Prod.mk.inj (Option.some.inj hv)).1
 rw [h.at_ kl] at hv'
 rw [DataW.held.inj hv']
theorem MMade.put {v1 : Value} {xs : List β} {kl : Lit} {k : Value} (h : MMade kt el d dom key w base F b n D g f) (hn : n < 9223372036854775807) (hk : keyOf Tryz.prog kt k = some kl) (hfr : ∀ q, w.heap.size ≤ q → F q)
  (hE : d.E = []) (hR : d.R el w' base F v1 xs) (hg : w.grownBy w' (g kl).ownBlock) (hat : v1.ownBlock = (g kl).ownBlock ∨ ∃ q, v1.ownBlock = some q ∧ w.heap.size ≤ q)
  {f' : κ → List β} (hf : ∀ x, dom x → (key x = kl → f' x = xs) ∧ (key x ≠ kl → f' x = f x)) :
  ∃ w2 D2 g2, (Instr.mapUpdate t (.map (some b)) k v1).run Tryz.prog w' = .ok () w2 ∧ w'.grownBy w2 (some b) ∧ MMade kt el d dom key w2 base F b (n + 1) D2 g2 f' := by
 classical
 have hrow : ∀ l q, (g l).ownBlock = some q → q ≠ b := by
  intro l q hq
  obtain ⟨ys, r⟩ := h.row l
  exact ((row_no_map r h.mp).1 q hq).2
 have m1 : w'.ownsMap Tryz.prog kt RH b n D := h.mp.kept hg (fun e => hrow _ _ e.symm rfl)
 obtain ⟨w2, hrun, m2, g2⟩ := m1.update K ht hn hk (show RH v1 = some (.held v1, []) from rfl)
 have hkl : WideAt.IsKeyLit kl := K.key hk
 have hR2 : d.R el w2 base F v1 xs := Kd.R_mono (Kd.R_grown (row_no_map hR m1) g2 (fun k hk e => hk.2 (by simpa using e))) (fun _ q => q.1)
 have hold : ∀ {l : Lit} {ys : List β}, l ≠ kl → d.R el w base F (g l) ys → d.R el w2 base F (g l) ys := by
  intro l ys hl r
  have q1 := Kd.R_grown (Kd.R_tight hE r) hg (fun k hk e => h.ne l kl hl k hk.symm e.symm)
  refine Kd.R_mono (Kd.R_grown (row_no_map q1 m1) g2 (fun k hk e => hk.2 (by simpa using e))) (fun k q => r.1 k q.1.symm)
 have hlt : ∀ l q, (g l).ownBlock = some q → q < w.heap.size := fun l q hq => by
  obtain ⟨ys, r⟩ := h.row l
  exact Kd.R_lt r q hq
 refine ⟨w2, D.put kl (.held v1), fun l => if l = kl then v1 else g l, hrun, g2, h.fb, h.bb, m2, fun l => ?_, fun l => ?_, fun x hx => ?_, fun l l' hl q hq => ?_⟩
 ·
  show _ = DataW.held (if l = kl then v1 else g l)
  by_cases e : l = kl
  ·
   subst e
   rw [if_pos rfl]
   exact Go.Maps.atKey_put_same h.mp.isMap hkl _ _
  ·
   rw [if_neg e]
   exact (Go.Maps.atKey_put_other e _ _).trans (h.at_ l)
 ·
  show ∃ ys, d.R el w2 base F (if l = kl then v1 else g l) ys
  by_cases e : l = kl
  ·
   rw [if_pos e]
   exact ⟨xs, hR2⟩
  ·
   rw [if_neg e]
   obtain ⟨ys, r⟩ := h.row l
   exact ⟨ys, hold e r⟩
 ·
  show d.R el w2 base F (if key x = kl then v1 else g (key x)) (f' x)
  by_cases e : key x = kl
  ·
   rw [if_pos e, (hf x hx).1 e]
   exact hR2
  ·
   rw [if_neg e, (hf x hx).2 e]
   exact hold e (h.rows x hx)
 ·
  replace hq : (if l = kl then v1 else g l).ownBlock = some q := hq
  show (if l' = kl then v1 else g l').ownBlock ≠ some q
  have new : ∀ l, l ≠ kl → ∀ q, v1.ownBlock = some q → (g l).ownBlock ≠ some q := by
   intro l hl q hq e
   rcases hat with hat | ⟨x, hx, hle⟩
   ·
    exact h.ne l kl hl q e (hat ▸ hq)
   ·
    have hlt := hlt l q e
    have : x = q := Option.some.inj (hx.symm.trans hq)
    omega
  by_cases e : l = kl
  ·
   rw [if_pos e] at hq
   rw [if_neg (fun e' => hl (e.trans e'.symm))]
   exact new l' (fun e' => hl (e.trans e'.symm)) q hq
  ·
   rw [if_neg e] at hq
   by_cases e' : l' = kl
   ·
    rw [if_pos e']
    exact fun e2 => new l e q e2 hq
   ·
    rw [if_neg e']
    exact h.ne l l' hl q hq
end
end Go.Proofs.YtefeibndnghejaaGreatDoor.Pr
end
section
set_option linter.unusedVariables false
set_option linter.unusedSimpArgs false
namespace Go.Proofs.YtefeibndnghejaaGreatDoor.Pr
open Go.RowKit Go.Proofs.YtefeibndnghejaaGreatDoorW.PrintWords Go.Proofs.YtefeibndnghejaaGreatDoorW.PrintLast Go.Proofs.YtefeibndnghejaaGreatDoorW.PrintMore
theorem law9 : Go.Maps.Keyed Tryz.prog 9 := Go.Maps.string_keyed Tryz.underlying9
theorem key9 {s : ByteArray} (hs : s.size ≤ maxLen) : keyOf Tryz.prog 9 (.string s) = some (.string s.data.toList) := WideMaps.keyOf_string_mk Tryz.underlying9 hs
abbrev MSer (w : World) (base : Nat) (F : Nat → Prop) (m : Value) (f : List UInt8 → List Int) (N : Nat) : Prop := MRow 9 2 (Kd.int .i64) (fun _ => True) Lit.string w base F m f N
theorem MSer.look {w : World} {base : Nat} {F : Nat → Prop} {m : Value} {f : List UInt8 → List Int} {N : Nat} (h : MSer w base F m f N) {s : ByteArray} (hs : s.size ≤ maxLen) :
  ∃ v, (∀ n, (Instr.lookup 74 m (.string s) false).run Tryz.prog (w.drewN n) = .ok v (w.drewN n)) ∧ (Kd.int .i64).R 2 w base F v (f s.data.toList) := by
 rcases h with ⟨rfl, h⟩ | ⟨b, n, D, g, rfl, hn, h⟩
 ·
  refine ⟨.slice none 0 0, fun n => ?_, by rw [h _ trivial]; exact Kd.R_nil _ _ _ _ _⟩
  exact Go.Maps.look_nil false law9 Tryz.underlying74 (Tryz.zeroValue123 _) (key9 hs)
 ·
  refine ⟨g (.string s.data.toList), fun n => ?_, h.rows _ trivial⟩
  exact (h.step (w' := w.drewN n) (fun k _ hk => (pw_below_drewN (Below.refl w.heap.size w) n).block k hk)).look law9 Tryz.underlying74 (Tryz.zeroValue123 _) (key9 hs)
set_option maxRecDepth 100000 in
set_option maxHeartbeats 4000000 in
theorem last_ser (g o : Nat) (m : Value) (s : ByteArray) (w : World) (base N : Nat) (F : Nat → Prop) (f : List UInt8 → List Int) (hs : s.size ≤ maxLen) (hc : w.cell? ⟨g, o, none⟩ = some m) (h : MSer w base F m f N) :
  Calls Tryz.prog 64 #[.pointer (some ⟨g, o, none⟩), .string s] w fun e w' => e = .returned (.tuple #[.int .i64 ((f s.data.toList).getLastD 0), .bool (decide (f s.data.toList ≠ []))]) ∧ Drawn0 w w' := by
 obtain ⟨v, hl, hr⟩ := h.look hs
 have hl0 : (Instr.lookup 74 m (.string s) false).run Tryz.prog w = .ok v w := hl 0
 obtain ⟨A, c, rfl, hlc, hC⟩ := Kd.R_reads hr
 generalize f s.data.toList = l at hC hlc hr hl hl0 ⊢
 clear hr hl h
 have hC0 := Aside0.mk hC
 have hmx := Kd.C_max hC
 by_cases hz : l.length = 0
 ·
  have hl' : l = [] := List.eq_nil_of_length_eq_zero hz
  subst hl'
  clear hC
  go_enter Tryz.func64, Tryz.ntmps64
  go_wp2
  go_ret2
  exact ⟨rfl, ⟨0, rfl⟩⟩
 ·
  have hz1 : ((l.length : Int) == 0) = false := by simp; exact fun e => hz (by simp [e])
  have hw : wrap64 ((l.length : Int) - 1) = ((l.length - 1 : Nat) : Int) := by rw [IntWalk.wrap64_in _ (by omega)]; omega
  obtain ⟨ad, rfl, hcell⟩ := Kd.at_int hC ((l.length - 1 : Nat) : Int) (by omega) (by omega)
  have hlast : l.getLastD 0 = rd l ((l.length - 1 : Nat) : Int) := by
   simp [rd]
   cases l with
   | nil => simp at hz
   | cons a r => simp [List.getLastD_cons, List.getLast?_eq_getElem?]
  have hne : decide (l ≠ []) = true := decide_eq_true (fun e => hz (by rw [e]; rfl))
  have hlt : ((l.length - 1 : Nat) : Int) < (l.length : Int) := by omega
  rw [hlast, hne]
  generalize rd l ((l.length - 1 : Nat) : Int) = z at hcell ⊢
  rw [Int.toNat_natCast] at hcell
  clear hC hlast hne
  go_enter Tryz.func64, Tryz.ntmps64
  go_wp2
  go_ret2
  exact ⟨rfl, ⟨0, rfl⟩⟩
end Go.Proofs.YtefeibndnghejaaGreatDoor.Pr
end
section
namespace Go.Proofs.YtefeibndnghejaaGreatDoor.Pr
open Go.RowKit Go.Proofs.YtefeibndnghejaaGreatDoorW.PrintWords Go.Proofs.YtefeibndnghejaaGreatDoorW.PrintLast Go.Proofs.YtefeibndnghejaaGreatDoorW.PrintMore
attribute [local go_sem] max2_int min2_int max_two min_two max_three min_three max_four min_four strGtr strLeq strGeq
set_option linter.unusedVariables false
set_option linter.unusedSimpArgs false
theorem eqA85 (d : Nat) (w : World) (x0 y0 : ByteArray) (x1 y1 : ByteArray) :
  (Op.equalIn (d + 2) 85 (.agg #[.string x0, .string x1]) (.agg #[.string y0, .string y1])).run Tryz.prog w = .ok (x0.toList == y0.toList && (x1.toList == y1.toList)) w := by
 refine eqA_of Tryz.underlying85 (by kernel_rfl) ?_
 refine eqf_cons (by rfl) (by go_simp; rfl) (by go_simp; rfl) (by go_simp) ?_
 exact eqf_last (by rfl) (by go_simp; rfl) (by go_simp; rfl) (by go_simp)
end Go.Proofs.YtefeibndnghejaaGreatDoor.Pr
end
section
set_option linter.unusedVariables false
set_option linter.unusedSimpArgs false
namespace Go.Proofs.YtefeibndnghejaaGreatDoor.Pr
open Go.RowKit
theorem eqItems_ints {P : Program} {e : TypeId} {k k' : IntKind} (he : P.underlying e = some (.int k')) (hpk : P.plainKey e = true) (d : Nat) (xs ys : List Int) (w : World) :
  ∀ is : List Nat, (∀ i ∈ is, i < xs.length ∧ i < ys.length) → (Op.eqItems (d + 1) e 1 (xs.map (Value.int k)).toArray (ys.map (Value.int k)).toArray is).run P w = .ok (is.all fun i => xs.getD i 0 == ys.getD i 0) w
 | [], _ => by simp [Op.eqItems]
 | i :: is, h => by
  have ih := eqItems_ints (k := k) he hpk d xs ys w is (fun j hj => h j (List.mem_cons_of_mem _ hj))
  obtain ⟨hx, hy⟩ := h i (List.mem_cons_self ..)
  have p1 : (part e (xs.map (Value.int k)).toArray (i * 1)).run P w = .ok (.int k (xs.getD i 0)) w := Go.run_part_plain (P := P) w hpk (by simp [Nat.mul_one, List.getElem?_eq_getElem hx])
  have p2 : (part e (ys.map (Value.int k)).toArray (i * 1)).run P w = .ok (.int k (ys.getD i 0)) w := Go.run_part_plain (P := P) w hpk (by simp [Nat.mul_one, List.getElem?_eq_getElem hy])
  have p3 := run_equalIn_int (P := P) (w := w) d e k k' (xs.getD i 0) (ys.getD i 0) he
  simp only [Op.eqItems, Sem.run_bind, p1, p2, p3, Result.andThen_ok, ih, List.all_cons]
  cases hq : (xs.getD i 0 == ys.getD i 0) <;> simp [ih]
theorem all_range_eq (xs ys : List Int) (h : xs.length = ys.length) : ((List.range xs.length).all fun i => xs.getD i 0 == ys.getD i 0) = (xs == ys) := by
 rw [Bool.eq_iff_iff, List.all_eq_true]
 constructor
 ·
  intro hh
  rw [beq_iff_eq]
  refine List.ext_getElem h fun i h1 h2 => ?_
  have := hh i (List.mem_range.2 h1)
  simpa [List.getD_eq_getElem?_getD, List.getElem?_eq_getElem h1, List.getElem?_eq_getElem h2] using this
 ·
  intro hh i hi
  rw [beq_iff_eq] at hh
  subst hh
  simp
theorem eqArr {P : Program} {t e : TypeId} {n : Nat} {k k' : IntKind} (hu : P.underlying t = some (.array n e)) (hi : (P.info? e).isSome = true) (hc : P.cellsOf e = 1) (he : P.underlying e = some (.int k')) (hpk : P.plainKey e = true) (d : Nat) (xs ys : List Int) (hx : xs.length = n) (hy : ys.length = n) (w : World) :
  (Op.equalIn (d + 2) t (.agg (xs.map (Value.int k)).toArray) (.agg (ys.map (Value.int k)).toArray)).run P w = .ok (xs == ys) w := by
 obtain ⟨inf, hi⟩ := Option.isSome_iff_exists.mp hi
 rw [run_equalIn_array (P := P) (w := w) (d + 1) _ _ hu hi, hc, eqItems_ints he hpk d xs ys w _ (fun i h => by have := List.mem_range.1 h; omega)]
 subst hx
 rw [all_range_eq xs ys hy.symm]
end Go.Proofs.YtefeibndnghejaaGreatDoor.Pr
end
section
set_option linter.unusedVariables false
set_option linter.unusedSimpArgs false
namespace Go.Proofs.YtefeibndnghejaaGreatDoor.Pr
open Go.RowKit Go.Proofs.YtefeibndnghejaaGreatDoorW.PrintWords Go.Proofs.YtefeibndnghejaaGreatDoorW.PrintLast Go.Proofs.YtefeibndnghejaaGreatDoorW.PrintMore
structure Rc where
  kd : Int
  nm : ByteArray
  tm : Int
  tw : Int
  vv : Int
  lv : Int
  tx : ByteArray
  tr : List Int
  sid : List Int
  pa : List Int
structure Rc.ok (x : Rc) : Prop where
  tr : x.tr.length = 16
  sid : x.sid.length = 8
  pa : x.pa.length = 8
  wtr : ∀ b ∈ x.tr, 0 ≤ b ∧ b < 256
  wsid : ∀ b ∈ x.sid, 0 ≤ b ∧ b < 256
def Rc.cells (x : Rc) (v : Value) : Array Value := (([.int .i64 x.kd, .string x.nm, v, .int .i64 x.tm, .int .i64 x.tw, .int .i64 x.vv, .int .i64 x.lv, .string x.tx] : List Value) ++ (x.tr.map (Value.int .u8) ++ (x.sid.map (Value.int .u8) ++ x.pa.map (Value.int .u8)))).toArray
theorem Rc.size {x : Rc} (h : x.ok) (v : Value) : (x.cells v).size = 40 := by
 simp [Rc.cells, h.tr, h.sid, h.pa]
theorem Rc.at2 (x : Rc) (v : Value) : (x.cells v)[2]? = some v := rfl
theorem Rc.set2 (x : Rc) (v u : Value) : (x.cells v).setIfInBounds 2 u = x.cells u := by
 simp [Rc.cells, List.set]
theorem Rc.ones (x : Rc) {v : Value} (hv : v.oneCell' = true) : (x.cells v).all (·.oneCell') = true := by
 have hm : ∀ l : List Int, (l.map (Value.int .u8)).all (·.oneCell') = true := fun l => by
  rw [List.all_map, List.all_eq_true]
  intro _ _
  rfl
 unfold Rc.cells
 rw [List.all_toArray, List.all_append, List.all_append, List.all_append, hm, hm, hm]
 simp only [List.all_cons, List.all_nil, hv, show ∀ k i, (Value.int k i).oneCell' = true from fun _ _ => rfl, show ∀ s, (Value.string s).oneCell' = true from fun _ => rfl, Bool.and_true]
theorem list16 : ∀ l : List Int, l.length = 16 → ∃ a0 a1 a2 a3 a4 a5 a6 a7 a8 a9 a10 a11 a12 a13 a14 a15, l = [a0, a1, a2, a3, a4, a5, a6, a7, a8, a9, a10, a11, a12, a13, a14, a15]
 | [a0, a1, a2, a3, a4, a5, a6, a7, a8, a9, a10, a11, a12, a13, a14, a15], _ => ⟨_, _, _, _, _, _, _, _, _, _, _, _, _, _, _, _, rfl⟩
theorem list8 : ∀ l : List Int, l.length = 8 → ∃ a0 a1 a2 a3 a4 a5 a6 a7, l = [a0, a1, a2, a3, a4, a5, a6, a7]
 | [a0, a1, a2, a3, a4, a5, a6, a7], _ => ⟨_, _, _, _, _, _, _, _, rfl⟩
theorem eqA33 (x0 y0 x1 y1 x2 y2 x3 y3 x4 y4 x5 y5 x6 y6 x7 y7 x8 y8 x9 y9 x10 y10 x11 y11 x12 y12 x13 y13 x14 y14 x15 y15 : Int) (W : World) : (Op.equalIn 10000 33 (.agg #[.int .u8 x0, .int .u8 x1, .int .u8 x2, .int .u8 x3, .int .u8 x4, .int .u8 x5, .int .u8 x6, .int .u8 x7, .int .u8 x8, .int .u8 x9, .int .u8 x10, .int .u8 x11, .int .u8 x12, .int .u8 x13, .int .u8 x14, .int .u8 x15]) (.agg #[.int .u8 y0, .int .u8 y1, .int .u8 y2, .int .u8 y3, .int .u8 y4, .int .u8 y5, .int .u8 y6, .int .u8 y7, .int .u8 y8, .int .u8 y9, .int .u8 y10, .int .u8 y11, .int .u8 y12, .int .u8 y13, .int .u8 y14, .int .u8 y15])).run Tryz.prog W = .ok ([x0, x1, x2, x3, x4, x5, x6, x7, x8, x9, x10, x11, x12, x13, x14, x15] == [y0, y1, y2, y3, y4, y5, y6, y7, y8, y9, y10, y11, y12, y13, y14, y15]) W := eqArr (k := .u8) Tryz.underlying33 (P := Tryz.prog) (by kernel_rfl) (by kernel_rfl) Tryz.underlying5 (by kernel_rfl) 9998 [x0, x1, x2, x3, x4, x5, x6, x7, x8, x9, x10, x11, x12, x13, x14, x15] [y0, y1, y2, y3, y4, y5, y6, y7, y8, y9, y10, y11, y12, y13, y14, y15] rfl rfl W
theorem eqA34 (x0 y0 x1 y1 x2 y2 x3 y3 x4 y4 x5 y5 x6 y6 x7 y7 : Int) (W : World) : (Op.equalIn 10000 34 (.agg #[.int .u8 x0, .int .u8 x1, .int .u8 x2, .int .u8 x3, .int .u8 x4, .int .u8 x5, .int .u8 x6, .int .u8 x7]) (.agg #[.int .u8 y0, .int .u8 y1, .int .u8 y2, .int .u8 y3, .int .u8 y4, .int .u8 y5, .int .u8 y6, .int .u8 y7])).run Tryz.prog W = .ok ([x0, x1, x2, x3, x4, x5, x6, x7] == [y0, y1, y2, y3, y4, y5, y6, y7]) W := eqArr (k := .u8) Tryz.underlying34 (P := Tryz.prog) (by kernel_rfl) (by kernel_rfl) Tryz.underlying5 (by kernel_rfl) 9998 [x0, x1, x2, x3, x4, x5, x6, x7] [y0, y1, y2, y3, y4, y5, y6, y7] rfl rfl W
attribute [local go_sem high] eqA33 eqA34
end Go.Proofs.YtefeibndnghejaaGreatDoor.Pr
end
section
set_option linter.unusedVariables false
set_option linter.unusedSimpArgs false
namespace Go.Proofs.YtefeibndnghejaaGreatDoor.Pr
open Go.RowKit Go.Proofs.YtefeibndnghejaaGreatDoorW.PrintWords Go.Proofs.YtefeibndnghejaaGreatDoorW.PrintLast Go.Proofs.YtefeibndnghejaaGreatDoorW.PrintMore
theorem mapM_of {α β : Type} (F : α → Option β) (g : α → β) : ∀ l : List α, (∀ x ∈ l, F x = some (g x)) → l.mapM F = some (l.map g)
 | [], _ => rfl
 | x :: l, h => by
  rw [List.mapM_cons, h x List.mem_cons_self, mapM_of F g l (fun y hy => h y (List.mem_cons_of_mem _ hy))]
  rfl
theorem kl_arr {t e n : Nat} (hu : Tryz.prog.underlying t = some (.array n e)) (he : Tryz.prog.underlying e = some (.int .u8)) (hc : Tryz.prog.cellsOf e = 1) (ht : Tryz.prog.cellsOf t = n) (xs : List Int) (hx : xs.length = n) (hw : ∀ b ∈ xs, (Lit.int .u8 b).wf = true) (d : Nat) :
  Tryz.prog.keyLits (d + 2) t (xs.map (Value.int .u8)) = some (xs.map (Lit.int .u8)) := by
 unfold Program.keyLits
 simp only [hu, hc, ht, List.length_map, hx, if_true]
 have h : (List.range n).mapM (fun i => Tryz.prog.keyLits (d + 1) e (((xs.map (Value.int .u8)).drop (i * 1)).take 1)) = some ((List.range n).map fun i => [Lit.int .u8 (xs.getD i 0)]) := by
  refine mapM_of _ _ _ (fun i hi => ?_)
  have hi' : i < xs.length := by have := List.mem_range.1 hi; omega
  rw [Nat.mul_one, List.drop_eq_getElem_cons (by simpa using hi'), List.take_succ_cons, List.take_zero]
  unfold Program.keyLits
  simp [he, hw _ (List.getElem_mem hi'), hi']
 rw [h]
 rw [Option.map_some]
 refine congrArg some ?_
 apply List.ext_getElem?
 intro j
 subst hx
 have : ((List.range xs.length).map fun i => [Lit.int .u8 (xs.getD i 0)]).flatten = (List.range xs.length).map fun i => Lit.int .u8 (xs.getD i 0) := by
  rw [← List.flatMap_def]
  generalize List.range xs.length = l
  induction l with
  | nil => rfl
  | cons a r ih => rw [List.flatMap_cons, ih]; rfl
 rw [this]
 by_cases hj : j < xs.length
 ·
  simp [hj]
 ·
  simp [List.getElem?_eq_none (Nat.le_of_not_lt hj)]
  omega
def spDom (p : List Int × List Int) : Prop := p.1.length = 16 ∧ p.2.length = 8 ∧ (∀ b ∈ p.1, 0 ≤ b ∧ b < 256) ∧ ∀ b ∈ p.2, 0 ≤ b ∧ b < 256
def spVal (p : List Int × List Int) : Value := .agg (p.1.map (Value.int .u8) ++ p.2.map (Value.int .u8)).toArray
def spKey (p : List Int × List Int) : Lit := .string (keyBytes (p.1.map (Lit.int .u8) ++ p.2.map (Lit.int .u8)))
theorem wf_u8 {b : Int} (h : 0 ≤ b ∧ b < 256) : (Lit.int .u8 b).wf = true := by
 simp [Lit.wf]
 refine ⟨h.1, ?_⟩
 have := h.2
 show b ≤ 255
 omega
theorem key102 {p : List Int × List Int} (h : spDom p) : keyOf Tryz.prog 102 (spVal p) = some (spKey p) := by
 obtain ⟨h1, h2, w1, w2⟩ := h
 have hf : (spVal p).formed Tryz.prog 102 = true := by
  simp only [spVal, Value.formed, Tryz.underlying102, List.size_toArray, List.length_append, List.length_map, h1, h2]
  kernel_rfl
 have hk : Tryz.prog.keyType 102 = true := by kernel_rfl
 have hn : 4 ≤ Tryz.prog.types.size + 1 := by decide +kernel
 obtain ⟨d, hd⟩ := Nat.exists_eq_add_of_le hn
 have c33 : Tryz.prog.cellsOf 33 = 16 := by kernel_rfl
 have c34 : Tryz.prog.cellsOf 34 = 8 := by kernel_rfl
 have c5 : Tryz.prog.cellsOf 5 = 1 := by kernel_rfl
 have c102 : Tryz.prog.cellsOf 102 = 24 := by kernel_rfl
 have k1 := kl_arr (d := d + 1) Tryz.underlying33 Tryz.underlying5 c5 c33 p.1 h1 (fun b hb => wf_u8 (w1 b hb))
 have k2 := kl_arr (d := d + 1) Tryz.underlying34 Tryz.underlying5 c5 c34 p.2 h2 (fun b hb => wf_u8 (w2 b hb))
 have hl : Tryz.prog.keyLits (Tryz.prog.types.size + 1) 102 (p.1.map (Value.int .u8) ++ p.2.map (Value.int .u8)) = some (p.1.map (Lit.int .u8) ++ p.2.map (Lit.int .u8)) := by
  rw [hd, show 4 + d = (d + 3) + 1 by omega]
  unfold Program.keyLits
  simp only [Tryz.underlying102, c102, List.length_append, List.length_map, h1, h2]
  rw [if_pos ⟨by decide, by kernel_rfl⟩]
  simp only [List.mapM_cons, List.mapM_nil, List.drop_zero, c33, c34]
  rw [List.take_left' (by simp [h1]), List.drop_left' (by simp [h1]), List.take_of_length_le (by simp [h2]), k1, k2]
  simp
 unfold keyOf
 simp only [Tryz.underlying102, hk, hf, Bool.and_self, if_true]
 show (Tryz.prog.keyLits (Tryz.prog.types.size + 1) 102 (spVal p).cells.toList).map _ = _
 simp only [spVal, Value.cells]
 rw [hl]
 rfl
theorem law102 : Go.Maps.Keyed Tryz.prog 102 := Go.Maps.Keyed.of_law (deep_law_laid (by kernel_rfl) (m := 3) (by omega) (by decide +kernel) (by kernel_rfl) (by kernel_rfl))
theorem spKey_inj {p q : List Int × List Int} (hp : spDom p) (hq : spDom q) (h : spKey p = spKey q) : p = q := by
 have h1 := law102.inj (key102 hp) (h ▸ key102 hq)
 simp only [spVal, Value.agg.injEq] at h1
 have h2 := congrArg Array.toList h1
 simp only at h2
 obtain ⟨a, b⟩ := List.append_inj h2 (by simp [hp.1, hq.1])
 have hm : ∀ {a b : List Int}, a.map (Value.int .u8) = b.map (Value.int .u8) → a = b := fun h => (List.map_inj_right (fun x y e => by injection e)).1 h
 exact Prod.ext (hm a) (hm b)
end Go.Proofs.YtefeibndnghejaaGreatDoor.Pr
end
