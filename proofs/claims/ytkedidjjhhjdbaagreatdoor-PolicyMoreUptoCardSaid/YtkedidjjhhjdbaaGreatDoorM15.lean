import Derived.Test.YtkedidjjhhjdbaaGreatDoorM5
import Derived.Test.YtkedidjjhhjdbaaGreatDoorM14
import Derived.OpenShut
set_option linter.unusedVariables false
set_option linter.unusedSimpArgs false
namespace Go.Proofs.YtkedidjjhhjdbaaGreatDoor.Pr
open Go Go.RowKit Go.ChangeShapes Go.WideShapes Go.Deep Go.Proofs.YtkedidjjhhjdbaaGreatDoorW.PrintWords Go.Proofs.YtkedidjjhhjdbaaGreatDoorW.PrintLast Go.Proofs.YtkedidjjhhjdbaaGreatDoorW.PrintMore
theorem bulk_part {H : Type} {d : DataW H} {l : List (DataW H)} (h : d ∈ l) : Rows.uptoBulk d ≤ Rows.uptoBulkAll l := by
 induction l with
 | nil => cases h
 | cons x r ih =>
  simp only [Rows.uptoBulkAll]
  cases List.mem_cons.1 h with
  | inl e => subst e; omega
  | inr e => have := ih e; omega
theorem bulk_pos {H : Type} (d : DataW H) : 1 ≤ Rows.uptoBulk d := by
 cases d with
 | lit l => cases l <;> simp [Rows.uptoBulk]
 | nil => simp [Rows.uptoBulk]
 | ptr d => simp [Rows.uptoBulk]
 | slice elems spare => simp [Rows.uptoBulk]
 | agg parts => simp [Rows.uptoBulk]
 | iface t d => simp [Rows.uptoBulk]
 | map entries => simp [Rows.uptoBulk]
 | held h => simp [Rows.uptoBulk]
theorem bulk_len {H : Type} (l : List (DataW H)) : l.length ≤ Rows.uptoBulkAll l := by
 induction l with
 | nil => simp [Rows.uptoBulkAll]
 | cons x r ih => have := bulk_pos x; simp only [Rows.uptoBulkAll, List.length_cons]; omega
theorem bulk_str {H : Type} {y : DataW H} {s : ByteArray} (h : y = .lit (.string s.data.toList)) : s.size + 1 = Rows.uptoBulk y := by
 subst h
 simp only [Rows.uptoBulk, Array.length_toList]
 rfl
def Bk {H : Type} (d : DataW H) : Prop := Rows.uptoBulk d ≤ 1048576
section
variable {H : Type}
theorem Bk.slice {e s : List (DataW H)} (h : Bk (.slice e s)) : e.length ≤ 1048576 ∧ ∀ x ∈ e, Bk x := by
 unfold Bk at h
 simp only [Rows.uptoBulk] at h
 have h1 := bulk_len e
 exact ⟨by omega, fun x hx => by have := bulk_part hx; unfold Bk; omega⟩
theorem Bk.agg {e : List (DataW H)} (h : Bk (.agg e)) : ∀ x ∈ e, Bk x := by
 unfold Bk at h
 simp only [Rows.uptoBulk] at h
 exact fun x hx => by have := bulk_part hx; unfold Bk; omega
theorem Bk.str {s : ByteArray} (h : Bk (.lit (.string s.data.toList) : DataW H)) : s.size ≤ 1048576 := by
 have := bulk_str (H := H) (s := s) rfl
 unfold Bk at h
 omega
end
theorem lcons {n : Nat} : ∀ l : List Value, l.length = n + 1 → ∃ c t, l = c :: t ∧ t.length = n
 | [], h => by cases h
 | c :: t, h => ⟨c, t, rfl, Nat.succ.inj h⟩
theorem list5 : ∀ l : List Value, l.length = 5 → ∃ c0 c1 c2 c3 c4, l = [c0, c1, c2, c3, c4]
 | [c0, c1, c2, c3, c4], _ => ⟨_, _, _, _, _, rfl⟩
section
variable {H : Type} {enc : TypeId × Value → H} {W : World} {base : Nat} {spare : Nat → Bool} {held : Bool}
theorem fld {fs : Array Field} {cs : List Value} {n : Nat} {ys : List (DataW H × List MemPlace)} (hf : ∀ (i : Nat) (f : Field), fs[i]? = some f → DataW.trod enc Tryz.prog W base spare held n f.type ((cs.drop f.offset).take (Tryz.prog.cellsOf f.type)) = ys[i]?)
  {i : Nat} {f : Field} {T o k : Nat} (hi : fs[i]? = some f) (ht : f.type = T) (ho : f.offset = o) (hc : Tryz.prog.cellsOf T = k) : DataW.trod enc Tryz.prog W base spare held n T ((cs.drop o).take k) = ys[i]? := by
 have := hf i f hi
 rw [ht, ho, hc] at this
 exact this
theorem matchers_bk {fuel : Nat} {v : Value} {y : DataW H × List MemPlace} (h : DataW.trod enc Tryz.prog W base spare held fuel 28 [v] = some y) (hs : Bk y.1) :
  ∃ (A : Option Addr) (l : List S33) (c : Nat), v = .slice A l.length c ∧ l.length ≤ c ∧ l.length ≤ 1048576 ∧ k33.C W A l.length l ∧ valsB 1048576 l := by
 rcases open_slice_fields Tryz.underlying28 Tryz.underlying33 (by kernel_rfl) (by kernel_rfl) h with ⟨hcs, _⟩ | ⟨x, len, cap, m, D, Pl, hcs, _, hl, hm, hmm, hx, hi⟩
 ·
  obtain rfl := List.singleton_inj.1 hcs
  exact ⟨none, [], 0, rfl, Nat.le_refl _, by simp, C_none, fun _ h => by cases h⟩
 ·
  obtain rfl := List.singleton_inj.1 hcs
  subst hx
  obtain ⟨z, hz⟩ := hs.slice
  simp only [List.length_map, List.length_range] at z
  have hlm : len ≤ m := by rw [hmm]; split <;> omega
  obtain ⟨xs, hxl, hxs⟩ := list_of (Q := fun i (y : S33) => (W.cell? (x.add (i * 3 + 0)) = some (.int .i64 y.f0) ∧ W.cell? (x.add (i * 3 + 1)) = some (.string y.f1) ∧ W.cell? (x.add (i * 3 + 2)) = some (.string y.f2)) ∧ y.f2.size ≤ 1048576) len (fun i hil => by
   obtain ⟨ys, n, hD, _, _, hfld⟩ := hi i (by omega)
   have hDs : Bk (.agg (ys.map (·.1)) : DataW H) := by
    rw [← hD]
    exact hz _ (List.mem_map.2 ⟨i, List.mem_range.2 hil, rfl⟩)
   obtain ⟨v0, y0, hc0, _, ht0⟩ := hfld 0 _ rfl
   obtain ⟨v1, y1, hc1, _, ht1⟩ := hfld 1 _ rfl
   obtain ⟨v2, y2, hc2, hy2, ht2⟩ := hfld 2 _ rfl
   obtain ⟨n0, e0, _, _⟩ := DataW.trod_int Tryz.underlying3 ht0
   obtain ⟨s1, e1, _, _⟩ := DataW.trod_string Tryz.underlying9 ht1
   obtain ⟨s2, e2, g2, _⟩ := DataW.trod_string Tryz.underlying9 ht2
   have hb2 : Bk y2.1 := hDs.agg _ (List.mem_map.2 ⟨y2, List.mem_of_getElem? hy2, rfl⟩)
   rw [g2] at hb2
   simp at e0 e1 e2
   subst e0 e1 e2
   exact ⟨⟨n0, s1, s2⟩, ⟨hc0, hc1, hc2⟩, hb2.str⟩)
  subst hxl
  refine ⟨some x, xs, cap, rfl, hl, by omega, C_elems (by omega) (fun j p hp => ⟨_, rfl, k33_mk W p, ?_⟩), fun p hp => ?_⟩
  ·
   obtain ⟨⟨c0, c1, c2⟩, _⟩ := hxs j p hp
   intro i u hu
   match i, hu with
   | 0, hu => cases hu; exact c0
   | 1, hu => cases hu; exact c1
   | 2, hu => cases hu; exact c2
   | (i + 3), hu => cases hu
  ·
   obtain ⟨j, hj⟩ := List.getElem?_of_mem hp
   exact (hxs j p hj).2
theorem texts_bk {fuel : Nat} {v : Value} {y : DataW H × List MemPlace} (h : DataW.trod enc Tryz.prog W base spare held fuel 29 [v] = some y) (hs : Bk y.1) :
  ∃ (A : Option Addr) (l : List ByteArray) (c : Nat), v = .slice A l.length c ∧ l.length ≤ c ∧ l.length ≤ 1048576 ∧ Kd.string.C W A l.length l := by
 rcases open_strings Tryz.underlying29 Tryz.underlying9 (by kernel_rfl) h with ⟨hcs, _⟩ | ⟨x, len, c, ss, hcs, _, hl, hm, hss, hx, hc, _⟩
 ·
  obtain rfl := List.singleton_inj.1 hcs
  exact ⟨none, [], 0, rfl, Nat.le_refl _, by simp, C_none⟩
 ·
  obtain rfl := List.singleton_inj.1 hcs
  subst hx
  have hlm : len ≤ ss.length := by rw [hss]; split <;> omega
  have z := hs.slice.1
  have hlen : (ss.take len).length = len := by simp; omega
  have e1 : (strs (H := H) (ss.take len)).length = len := by simp [strs]; omega
  rw [e1] at z
  have := C_elems (d := Kd.string) (W := W) (x := x) (xs := ss.take len) (by omega) (fun j p hp => ⟨[.string p], rfl, rfl, fun i u hu => by
   match i, hu with
   | 0, hu =>
    cases hu
    rw [List.getElem?_take] at hp
    split at hp
    ·
     have hq := hc j (by omega)
     show W.cell? (x.add (j * 1 + 0)) = _
     rw [Nat.mul_one, Nat.add_zero, hq, List.getD_eq_getElem?_getD, hp]
     rfl
    ·
     cases hp
   | (i + 1), hu => cases hu⟩)
  refine ⟨some x, ss.take len, c, by rw [hlen], by omega, by omega, this⟩
theorem attrs_bk {fuel : Nat} {v : Value} {y : DataW H × List MemPlace} (h : DataW.trod enc Tryz.prog W base spare held fuel 48 [v] = some y) (hs : Bk y.1) :
  ∃ (A : Option Addr) (l : List S62) (c : Nat), v = .slice A l.length c ∧ l.length ≤ c ∧ l.length ≤ 1048576 ∧ k62.C W A l.length l ∧ ∀ x ∈ l, x.f1.size ≤ 1048576 := by
 rcases open_slice_fields Tryz.underlying48 Tryz.underlying62 (by kernel_rfl) (by kernel_rfl) h with ⟨hcs, _⟩ | ⟨x, len, cap, m, D, Pl, hcs, _, hl, hm, hmm, hx, hi⟩
 ·
  obtain rfl := List.singleton_inj.1 hcs
  exact ⟨none, [], 0, rfl, Nat.le_refl _, by simp, C_none, fun _ h => by cases h⟩
 ·
  obtain rfl := List.singleton_inj.1 hcs
  subst hx
  obtain ⟨z, hz⟩ := hs.slice
  simp only [List.length_map, List.length_range] at z
  have hlm : len ≤ m := by rw [hmm]; split <;> omega
  obtain ⟨xs, hxl, hxs⟩ := list_of (Q := fun i (y : S62) => (W.cell? (x.add (i * 2 + 0)) = some (.string y.f0) ∧ W.cell? (x.add (i * 2 + 1)) = some (.string y.f1)) ∧ y.f1.size ≤ 1048576) len (fun i hil => by
   obtain ⟨ys, n, hD, _, _, hfld⟩ := hi i (by omega)
   have hDs : Bk (.agg (ys.map (·.1)) : DataW H) := by
    rw [← hD]
    exact hz _ (List.mem_map.2 ⟨i, List.mem_range.2 hil, rfl⟩)
   obtain ⟨v0, y0, hc0, _, ht0⟩ := hfld 0 _ rfl
   obtain ⟨v1, y1, hc1, hy1, ht1⟩ := hfld 1 _ rfl
   obtain ⟨s0, e0, _, _⟩ := DataW.trod_string Tryz.underlying9 ht0
   obtain ⟨s1, e1, g1, _⟩ := DataW.trod_string Tryz.underlying9 ht1
   have hb1 : Bk y1.1 := hDs.agg _ (List.mem_map.2 ⟨y1, List.mem_of_getElem? hy1, rfl⟩)
   rw [g1] at hb1
   simp at e0 e1
   subst e0 e1
   exact ⟨⟨s0, s1⟩, ⟨hc0, hc1⟩, hb1.str⟩)
  subst hxl
  refine ⟨some x, xs, cap, rfl, hl, by omega, C_elems (by omega) (fun j p hp => ⟨_, rfl, k62_mk W p, ?_⟩), fun p hp => ?_⟩
  ·
   obtain ⟨⟨c0, c1⟩, _⟩ := hxs j p hp
   intro i u hu
   match i, hu with
   | 0, hu => cases hu; exact c0
   | 1, hu => cases hu; exact c1
   | (i + 2), hu => cases hu
  ·
   obtain ⟨j, hj⟩ := List.getElem?_of_mem hp
   exact (hxs j p hj).2
theorem rules_bk {fuel : Nat} {v : Value} {y : DataW H × List MemPlace} (h : DataW.trod enc Tryz.prog W base spare held fuel 22 [v] = some y) (hs : Bk y.1) :
  ∃ (A : Option Addr) (l : List S46) (c : Nat), v = .slice A l.length c ∧ l.length ≤ c ∧ l.length ≤ 1048576 ∧ k46.C W A l.length l ∧ ∀ x ∈ l, valsB 1048576 x.f3 ∧ x.f3.length ≤ 1048576 ∧ x.f4.length ≤ 1048576 := by
 rcases open_slice_fields Tryz.underlying22 Tryz.underlying46 (by kernel_rfl) (by kernel_rfl) h with ⟨hcs, _⟩ | ⟨x, len, cap, m, D, Pl, hcs, _, hl, hm, hmm, hx, hi⟩
 ·
  obtain rfl := List.singleton_inj.1 hcs
  exact ⟨none, [], 0, rfl, Nat.le_refl _, by simp, C_none, fun x h => by cases h⟩
 ·
  obtain rfl := List.singleton_inj.1 hcs
  subst hx
  obtain ⟨z, hz⟩ := hs.slice
  simp only [List.length_map, List.length_range] at z
  have hlm : len ≤ m := by rw [hmm]; split <;> omega
  obtain ⟨xs, hxl, hxs⟩ := list_of (Q := fun i (y : S46) => (∃ cs, cs.length = k46.sz ∧ k46.K W y cs ∧ ∀ j u, cs[j]? = some u → W.cell? (x.add (i * 5 + j)) = some u) ∧ valsB 1048576 y.f3 ∧ y.f3.length ≤ 1048576 ∧ y.f4.length ≤ 1048576) len (fun i hil => by
   obtain ⟨ys, n, hD, _, hyl, hfld⟩ := hi i (by omega)
   have hDs : Bk (.agg (ys.map (·.1)) : DataW H) := by
    rw [← hD]
    exact hz _ (List.mem_map.2 ⟨i, List.mem_range.2 hil, rfl⟩)
   obtain ⟨v0, y0, hc0, _, ht0⟩ := hfld 0 _ rfl
   obtain ⟨v1, y1, hc1, _, ht1⟩ := hfld 1 _ rfl
   obtain ⟨v2, y2, hc2, _, ht2⟩ := hfld 2 _ rfl
   obtain ⟨v3, y3, hc3, hy3, ht3⟩ := hfld 3 _ rfl
   obtain ⟨v4, y4, hc4, hy4, ht4⟩ := hfld 4 _ rfl
   obtain ⟨b0, e0, _⟩ := DataW.trod_bool Tryz.underlying4 ht0
   obtain ⟨n1, e1, _, _⟩ := DataW.trod_int Tryz.underlying3 ht1
   obtain ⟨s2, e2, _, _⟩ := DataW.trod_string Tryz.underlying9 ht2
   obtain ⟨A3, l3, c3, rfl, hl3, hb3, hC3, hv3⟩ := matchers_bk ht3 (hDs.agg _ (List.mem_map.2 ⟨y3, List.mem_of_getElem? hy3, rfl⟩))
   obtain ⟨A4, l4, c4, rfl, hl4, hb4, hC4⟩ := texts_bk ht4 (hDs.agg _ (List.mem_map.2 ⟨y4, List.mem_of_getElem? hy4, rfl⟩))
   simp at e0 e1 e2
   subst e0 e1 e2
   refine ⟨⟨b0, n1, s2, l3, l4⟩, ⟨_, ?_, k46_mk W ⟨b0, n1, s2, l3, l4⟩ hl3 hC3 hl4 hC4, ?_⟩, hv3, hb3, hb4⟩
   ·
    rfl
   ·
    intro j u hu
    match j, hu with
    | 0, hu => cases hu; exact hc0
    | 1, hu => cases hu; exact hc1
    | 2, hu => cases hu; exact hc2
    | 3, hu => cases hu; exact hc3
    | 4, hu => cases hu; exact hc4
    | (j + 5), hu => cases hu)
  subst hxl
  refine ⟨some x, xs, cap, rfl, hl, by omega, C_elems (by omega) (fun j p hp => (hxs j p hp).1), fun p hp => ?_⟩
  obtain ⟨j, hj⟩ := List.getElem?_of_mem hp
  exact (hxs j p hj).2
theorem rule_bk {fuel : Nat} {cs : List Value} {y : DataW H × List MemPlace} (h : DataW.trod enc Tryz.prog W base spare held fuel 46 cs = some y) (hs : Bk y.1) :
  ∃ (x : S46) (A3 A4 : Option Addr) (c3 c4 : Nat), cs = [.bool x.f0, .int .i64 x.f1, .string x.f2, .slice A3 x.f3.length c3, .slice A4 x.f4.length c4] ∧ x.f3.length ≤ c3 ∧ k33.C W A3 x.f3.length x.f3 ∧ x.f4.length ≤ c4 ∧ Kd.string.C W A4 x.f4.length x.f4 ∧ valsB 1048576 x.f3 := by
 obtain ⟨ys, n, _, hy, hcl, hyl, hf⟩ := DataW.trod_struct Tryz.underlying46 h
 rw [show Tryz.prog.cellsOf 46 = 5 by kernel_rfl] at hcl
 obtain ⟨c0, c1, c2, c3, c4, rfl⟩ := list5 cs hcl
 subst hy
 have t0 : DataW.trod enc Tryz.prog W base spare held n 4 [c0] = ys[0]? := fld hf (i := 0) rfl rfl rfl (by kernel_rfl) (k := 1) (o := 0)
 rw [List.getElem?_eq_getElem (by rw [hyl]; exact (by decide : 0 < 5))] at t0
 have t1 : DataW.trod enc Tryz.prog W base spare held n 3 [c1] = ys[1]? := fld hf (i := 1) rfl rfl rfl (by kernel_rfl) (k := 1) (o := 1)
 rw [List.getElem?_eq_getElem (by rw [hyl]; exact (by decide : 1 < 5))] at t1
 have t2 : DataW.trod enc Tryz.prog W base spare held n 9 [c2] = ys[2]? := fld hf (i := 2) rfl rfl rfl (by kernel_rfl) (k := 1) (o := 2)
 rw [List.getElem?_eq_getElem (by rw [hyl]; exact (by decide : 2 < 5))] at t2
 have t3 : DataW.trod enc Tryz.prog W base spare held n 28 [c3] = ys[3]? := fld hf (i := 3) rfl rfl rfl (by kernel_rfl) (k := 1) (o := 3)
 rw [List.getElem?_eq_getElem (by rw [hyl]; exact (by decide : 3 < 5))] at t3
 have t4 : DataW.trod enc Tryz.prog W base spare held n 29 [c4] = ys[4]? := fld hf (i := 4) rfl rfl rfl (by kernel_rfl) (k := 1) (o := 4)
 rw [List.getElem?_eq_getElem (by rw [hyl]; exact (by decide : 4 < 5))] at t4
 obtain ⟨b0, e0, _⟩ := DataW.trod_bool Tryz.underlying4 t0
 obtain ⟨n1, e1, _, _⟩ := DataW.trod_int Tryz.underlying3 t1
 obtain ⟨s2, e2, _, _⟩ := DataW.trod_string Tryz.underlying9 t2
 obtain ⟨A3, l3, c3', rfl, hl3, hb3, hC3, hv3⟩ := matchers_bk t3 (hs.agg _ (List.mem_map.2 ⟨_, List.getElem_mem _, rfl⟩))
 obtain ⟨A4, l4, c4', rfl, hl4, hb4, hC4⟩ := texts_bk t4 (hs.agg _ (List.mem_map.2 ⟨_, List.getElem_mem _, rfl⟩))
 simp at e0 e1 e2
 subst e0 e1 e2
 exact ⟨⟨b0, n1, s2, l3, l4⟩, A3, A4, c3', c4', rfl, hl3, hC3, hl4, hC4, hv3⟩
theorem ints_of {T n : Nat} (hu : Tryz.prog.underlying T = some (.array n 5)) (hc : Tryz.prog.cellsOf T = n) {fuel : Nat} {cs : List Value} {y : DataW H × List MemPlace} (h : DataW.trod enc Tryz.prog W base spare held fuel T cs = some y) :
  ∃ xs : List Int, xs.length = n ∧ cs = xs.map (Value.int .u8) := by
 obtain ⟨ys, m, _, _, hcl, hyl, hf⟩ := DataW.trod_array hu h
 rw [hc] at hcl
 obtain ⟨xs, hxl, hxs⟩ := list_of (Q := fun i (k : Int) => cs[i]? = some (.int .u8 k)) n (fun i hi => by
  have h1 := hf i hi
  rw [show Tryz.prog.cellsOf 5 = 1 by kernel_rfl, Nat.mul_one, List.getElem?_eq_getElem (show i < ys.length by omega)] at h1
  obtain ⟨k, e, _⟩ := DataW.trod_int Tryz.underlying5 h1
  refine ⟨k, ?_⟩
  have := congrArg (fun l => l[0]?) e
  simpa [List.getElem?_take, List.getElem?_drop] using this)
 refine ⟨xs, hxl, List.ext_getElem? fun i => ?_⟩
 rw [List.getElem?_map]
 rcases Nat.lt_or_ge i n with hi | hi
 ·
  have hx : xs[i]? = some xs[i] := List.getElem?_eq_getElem (by omega)
  rw [hxs i _ hx, hx]; rfl
 ·
  rw [List.getElem?_eq_none (by omega), List.getElem?_eq_none (by omega)]; rfl
theorem record_bk {fuel : Nat} {cs : List Value} {y : DataW H × List MemPlace} (h : DataW.trod enc Tryz.prog W base spare held fuel 52 cs = some y) (hs : Bk y.1) :
  ∃ (x : Rc) (A : Option Addr) (l : List S62) (c : Nat), x.ok ∧ cs = (x.cells (.slice A l.length c)).toList ∧ l.length ≤ c ∧ l.length ≤ 1048576 ∧ k62.C W A l.length l ∧ ∀ z ∈ l, z.f1.size ≤ 1048576 := by
 obtain ⟨ys, n, _, hy, hcl, hyl, hf⟩ := DataW.trod_struct Tryz.underlying52 h
 rw [show Tryz.prog.cellsOf 52 = 40 by kernel_rfl] at hcl
 obtain ⟨c0, u0, rfl, g0⟩ := lcons cs hcl
 obtain ⟨c1, u1, rfl, g1⟩ := lcons u0 g0
 obtain ⟨c2, u2, rfl, g2⟩ := lcons u1 g1
 obtain ⟨c3, u3, rfl, g3⟩ := lcons u2 g2
 obtain ⟨c4, u4, rfl, g4⟩ := lcons u3 g3
 obtain ⟨c5, u5, rfl, g5⟩ := lcons u4 g4
 obtain ⟨c6, u6, rfl, g6⟩ := lcons u5 g5
 obtain ⟨c7, u7, rfl, g7⟩ := lcons u6 g6
 obtain ⟨c8, u8, rfl, g8⟩ := lcons u7 g7
 obtain ⟨c9, u9, rfl, g9⟩ := lcons u8 g8
 obtain ⟨c10, u10, rfl, g10⟩ := lcons u9 g9
 obtain ⟨c11, u11, rfl, g11⟩ := lcons u10 g10
 obtain ⟨c12, u12, rfl, g12⟩ := lcons u11 g11
 obtain ⟨c13, u13, rfl, g13⟩ := lcons u12 g12
 obtain ⟨c14, u14, rfl, g14⟩ := lcons u13 g13
 obtain ⟨c15, u15, rfl, g15⟩ := lcons u14 g14
 obtain ⟨c16, u16, rfl, g16⟩ := lcons u15 g15
 obtain ⟨c17, u17, rfl, g17⟩ := lcons u16 g16
 obtain ⟨c18, u18, rfl, g18⟩ := lcons u17 g17
 obtain ⟨c19, u19, rfl, g19⟩ := lcons u18 g18
 obtain ⟨c20, u20, rfl, g20⟩ := lcons u19 g19
 obtain ⟨c21, u21, rfl, g21⟩ := lcons u20 g20
 obtain ⟨c22, u22, rfl, g22⟩ := lcons u21 g21
 obtain ⟨c23, u23, rfl, g23⟩ := lcons u22 g22
 obtain ⟨c24, u24, rfl, g24⟩ := lcons u23 g23
 obtain ⟨c25, u25, rfl, g25⟩ := lcons u24 g24
 obtain ⟨c26, u26, rfl, g26⟩ := lcons u25 g25
 obtain ⟨c27, u27, rfl, g27⟩ := lcons u26 g26
 obtain ⟨c28, u28, rfl, g28⟩ := lcons u27 g27
 obtain ⟨c29, u29, rfl, g29⟩ := lcons u28 g28
 obtain ⟨c30, u30, rfl, g30⟩ := lcons u29 g29
 obtain ⟨c31, u31, rfl, g31⟩ := lcons u30 g30
 obtain ⟨c32, u32, rfl, g32⟩ := lcons u31 g31
 obtain ⟨c33, u33, rfl, g33⟩ := lcons u32 g32
 obtain ⟨c34, u34, rfl, g34⟩ := lcons u33 g33
 obtain ⟨c35, u35, rfl, g35⟩ := lcons u34 g34
 obtain ⟨c36, u36, rfl, g36⟩ := lcons u35 g35
 obtain ⟨c37, u37, rfl, g37⟩ := lcons u36 g36
 obtain ⟨c38, u38, rfl, g38⟩ := lcons u37 g37
 obtain ⟨c39, u39, rfl, g39⟩ := lcons u38 g38
 obtain rfl := List.eq_nil_of_length_eq_zero g39
 subst hy
 have t0 : DataW.trod enc Tryz.prog W base spare held n 3 [c0] = ys[0]? := fld hf (i := 0) rfl rfl rfl (by kernel_rfl) (k := 1) (o := 0)
 rw [List.getElem?_eq_getElem (by rw [hyl]; exact (by decide : 0 < 11))] at t0
 have t1 : DataW.trod enc Tryz.prog W base spare held n 9 [c1] = ys[1]? := fld hf (i := 1) rfl rfl rfl (by kernel_rfl) (k := 1) (o := 1)
 rw [List.getElem?_eq_getElem (by rw [hyl]; exact (by decide : 1 < 11))] at t1
 have t2 : DataW.trod enc Tryz.prog W base spare held n 48 [c2] = ys[2]? := fld hf (i := 2) rfl rfl rfl (by kernel_rfl) (k := 1) (o := 2)
 rw [List.getElem?_eq_getElem (by rw [hyl]; exact (by decide : 2 < 11))] at t2
 have t3 : DataW.trod enc Tryz.prog W base spare held n 2 [c3] = ys[3]? := fld hf (i := 3) rfl rfl rfl (by kernel_rfl) (k := 1) (o := 3)
 rw [List.getElem?_eq_getElem (by rw [hyl]; exact (by decide : 3 < 11))] at t3
 have t4 : DataW.trod enc Tryz.prog W base spare held n 2 [c4] = ys[4]? := fld hf (i := 4) rfl rfl rfl (by kernel_rfl) (k := 1) (o := 4)
 rw [List.getElem?_eq_getElem (by rw [hyl]; exact (by decide : 4 < 11))] at t4
 have t5 : DataW.trod enc Tryz.prog W base spare held n 2 [c5] = ys[5]? := fld hf (i := 5) rfl rfl rfl (by kernel_rfl) (k := 1) (o := 5)
 rw [List.getElem?_eq_getElem (by rw [hyl]; exact (by decide : 5 < 11))] at t5
 have t6 : DataW.trod enc Tryz.prog W base spare held n 3 [c6] = ys[6]? := fld hf (i := 6) rfl rfl rfl (by kernel_rfl) (k := 1) (o := 6)
 rw [List.getElem?_eq_getElem (by rw [hyl]; exact (by decide : 6 < 11))] at t6
 have t7 : DataW.trod enc Tryz.prog W base spare held n 9 [c7] = ys[7]? := fld hf (i := 7) rfl rfl rfl (by kernel_rfl) (k := 1) (o := 7)
 rw [List.getElem?_eq_getElem (by rw [hyl]; exact (by decide : 7 < 11))] at t7
 have t8 : DataW.trod enc Tryz.prog W base spare held n 49 [c8, c9, c10, c11, c12, c13, c14, c15, c16, c17, c18, c19, c20, c21, c22, c23] = ys[8]? := fld hf (i := 8) rfl rfl rfl (by kernel_rfl) (k := 16) (o := 8)
 rw [List.getElem?_eq_getElem (by rw [hyl]; exact (by decide : 8 < 11))] at t8
 have t9 : DataW.trod enc Tryz.prog W base spare held n 50 [c24, c25, c26, c27, c28, c29, c30, c31] = ys[9]? := fld hf (i := 9) rfl rfl rfl (by kernel_rfl) (k := 8) (o := 24)
 rw [List.getElem?_eq_getElem (by rw [hyl]; exact (by decide : 9 < 11))] at t9
 have t10 : DataW.trod enc Tryz.prog W base spare held n 50 [c32, c33, c34, c35, c36, c37, c38, c39] = ys[10]? := fld hf (i := 10) rfl rfl rfl (by kernel_rfl) (k := 8) (o := 32)
 rw [List.getElem?_eq_getElem (by rw [hyl]; exact (by decide : 10 < 11))] at t10
 obtain ⟨n0, e0, _, _⟩ := DataW.trod_int Tryz.underlying3 t0
 obtain ⟨s1, e1, _, _⟩ := DataW.trod_string Tryz.underlying9 t1
 obtain ⟨A, l, c, rfl, hl, hb, hC, hv⟩ := attrs_bk t2 (hs.agg _ (List.mem_map.2 ⟨_, List.getElem_mem _, rfl⟩))
 obtain ⟨n3, e3, _, _⟩ := DataW.trod_int Tryz.underlying2 t3
 obtain ⟨n4, e4, _, _⟩ := DataW.trod_int Tryz.underlying2 t4
 obtain ⟨n5, e5, _, _⟩ := DataW.trod_int Tryz.underlying2 t5
 obtain ⟨n6, e6, _, _⟩ := DataW.trod_int Tryz.underlying3 t6
 obtain ⟨s7, e7, _, _⟩ := DataW.trod_string Tryz.underlying9 t7
 obtain ⟨tr, h8, e8⟩ := ints_of Tryz.underlying49 (by kernel_rfl) t8
 obtain ⟨sid, h9, e9⟩ := ints_of Tryz.underlying50 (by kernel_rfl) t9
 obtain ⟨pa, h10, e10⟩ := ints_of Tryz.underlying50 (by kernel_rfl) t10
 refine ⟨⟨n0, s1, n3, n4, n5, n6, s7, tr, sid, pa⟩, A, l, c, ⟨h8, h9, h10⟩, ?_, hl, hb, hC, hv⟩
 show [c0, c1, Value.slice A l.length c, c3, c4, c5, c6, c7, c8, c9, c10, c11, c12, c13, c14, c15, c16, c17, c18, c19, c20, c21, c22, c23, c24, c25, c26, c27, c28, c29, c30, c31, c32, c33, c34, c35, c36, c37, c38, c39] = _
 show [c0] ++ [c1] ++ [Value.slice A l.length c] ++ [c3] ++ [c4] ++ [c5] ++ [c6] ++ [c7] ++ ([c8, c9, c10, c11, c12, c13, c14, c15, c16, c17, c18, c19, c20, c21, c22, c23] ++ ([c24, c25, c26, c27, c28, c29, c30, c31] ++ [c32, c33, c34, c35, c36, c37, c38, c39])) = _
 rw [e0, e1, e3, e4, e5, e6, e7, e8, e9, e10]
 rfl
end
end Go.Proofs.YtkedidjjhhjdbaaGreatDoor.Pr
