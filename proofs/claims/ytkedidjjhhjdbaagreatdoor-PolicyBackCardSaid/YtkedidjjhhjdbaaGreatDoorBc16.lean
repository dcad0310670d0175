import Derived.Test.YtkedidjjhhjdbaaGreatDoorBc0
import Derived.Test.YtkedidjjhhjdbaaGreatDoorBc5
import Derived.Laws.Runes
import Derived.WalkMore
import Derived.Laws.RangeAny
import Derived.Lib.OthersKept
import Derived.Shelf.Strings.IndexAnyAll
import Derived.Shelf.Small.Utf8
import Derived.Test.YtkedidjjhhjdbaaGreatDoorBc11
section
set_option linter.unusedVariables false
set_option linter.unusedSimpArgs false
namespace Go.Proofs.YtkedidjjhhjdbaaGreatDoor.Pr
open Go.RowKit Go.Proofs.YtkedidjjhhjdbaaGreatDoorW.PrintWords Go.Proofs.YtkedidjjhhjdbaaGreatDoorW.PrintLast Go.Proofs.YtkedidjjhhjdbaaGreatDoorW.PrintMore
def eqBang : ByteArray := ⟨#[61, 33]⟩
theorem valid_rune (r : Int) (w : World) : Calls Tryz.prog 161 #[.int .i32 r] w fun e w' => e = .returned (.bool (Lib.validRune r)) ∧ w' = w := Any.utf8_ValidRune (ρ := Tryz.lays153_ren) { Tryz.lays153 with } r w
theorem index_byte0 (s : ByteArray) (hs : s = ⟨#[]⟩) (c : Int) (w : World) (h0 : 0 ≤ c) (h1 : c < 256) : Calls Tryz.prog 160 #[.string s, .int .u8 c] w fun e w' => e = .returned (.int .i64 (-1)) ∧ w' = w := by
 subst hs
 exact Any.strings_IndexByte (ρ := Tryz.lays153_ren) (P := Tryz.prog) { Tryz.lays153 with } ⟨#[]⟩ c w
set_option maxHeartbeats 4000000 in
set_option maxRecDepth 1000000 in
theorem index_rune_err (w : World) : Calls Tryz.prog 139 #[.string eqBang, .int .i32 65533] w fun e w' => e = .returned (.int .i64 (-1)) ∧ ∃ pos, w' = w.iter eqBang pos := by
 have hsz : eqBang.size = 2 := rfl
 go_enter Tryz.func139, Tryz.ntmps139
 go_wp2
 go_loopg [5, 6] 2 (fun g _ _ wx => ∃ i : Nat, i + g = 2 ∧ wx = w.iter eqBang i)
 case atStart => exact ⟨0, by omega, rfl⟩
 case round =>
  obtain ⟨i, hig, rfl⟩ := hrel
  cases gk with
  | zero =>
   obtain rfl : i = 2 := by omega
   have hnx := fun ty => run_next_end (P := Tryz.prog) w eqBang 2 ty (by decide)
   go_wp2; go_ret
   exact ⟨rfl, _, rfl⟩
  | succ g =>
   have hi : i = 0 ∨ i = 1 := by omega
   rcases hi with rfl | rfl
   ·
    have hnx := fun ty => run_next_ascii (P := Tryz.prog) w eqBang 0 ty (by decide) (by decide)
    have hx : (eqBang[0]'(by decide)).toNat = 61 := rfl
    rw [hx] at hnx; go_wp2
    go_roundg g
    case measure => omega
    case rel => exact ⟨1, by omega, rfl⟩
   have hnx := fun ty => run_next_ascii (P := Tryz.prog) w eqBang 1 ty (by decide) (by decide)
   have hx : (eqBang[1]'(by decide)).toNat = 33 := rfl
   rw [hx] at hnx; go_wp2
   go_roundg g
   case measure => omega
   case rel => exact ⟨2, by omega, rfl⟩
set_option maxHeartbeats 4000000 in
set_option maxRecDepth 1000000 in
theorem index_rune_far (r : Int) (w : World) (h : 128 ≤ r) (hne : r ≠ 65533) : Calls Tryz.prog 139 #[.string eqBang, .int .i32 r] w fun e w' => e = .returned (.int .i64 (-1)) ∧ Drawn0 w w' := by
 have hsz : eqBang.size = 2 := rfl
 have b0 : decide (0 ≤ r) = true := decide_eq_true (by omega)
 have b1 : decide (r < 128) = false := decide_eq_false (by omega)
 have b2 : (r == 65533) = false := beq_eq_false_iff_ne.mpr hne
 cases hv : Lib.validRune r with
 | false =>
  go_enter Tryz.func139, Tryz.ntmps139
  go_wp2_with fail
  refine (valid_rune r w).mono ?_
  rintro e w1 ⟨rfl, rfl⟩
  rw [hv]; go_wp2; go_ret
  exact ⟨rfl, Drawn0.refl _⟩
 | true =>
  have hu : Utf8.valid r = true := by
   rw [Go.validRune_eq]
   unfold Lib.validRune at hv
   unfold Go.validRune
   exact hv
  obtain ⟨e2, e4, el⟩ := encode_facts r hu h
  obtain ⟨rs, hrs⟩ : ∃ rs, rs = Utf8.encode r := ⟨_, rfl⟩
  rw [← hrs] at e2 e4 el
  have hcv : ∀ w, (convert 21 9 (.int .i32 r)).run Tryz.prog w = .ok (.string rs) w := fun w => by rw [hrs]; exact run_convert_int_string (P := Tryz.prog) w 21 9 .i32 r (by rw [Tryz.underlying21]; rfl) Tryz.underlying9
  clear hrs
  go_enter Tryz.func139, Tryz.ntmps139
  go_wp2_with fail
  refine (valid_rune r w).mono ?_
  rintro e w1 ⟨rfl, rfl⟩
  rw [hv]; go_wp2
  go_step3
  go_wp2; by_cases hn : rs.size = 2; rotate_left
  ·
   have b3 : decide ((rs.size : Int) - 1 < 2) = false := decide_eq_false (by omega)
   refine wp_loop_rounds 1 ?_
   rw [rounds_succ]; go_wp2; simp only [Exit.noGoto, Exit.inBlock, Exit.then]; go_ret
   exact ⟨rfl, Drawn0.refl _⟩
  have b3 : decide ((1 : Int) < 2) = true := rfl
  have b4 : (rs.size : Int) - 1 = 1 := by omega
  have p1 : (1 : Nat) < rs.size := by omega
  have hlast : 128 ≤ (rs[1]'p1).toNat := by
   have h0 : rs.size - 1 < rs.size := by omega
   have := el h0
   have e : rs[rs.size - 1]'h0 = rs[1]'p1 := by congr 1; omega
   rw [e] at this; exact this
  have z : (((eqBang[1]'(by decide)).toNat : Int) != ((rs[1]'p1).toNat : Int)) = true := by
   rw [bne_iff_ne]
   have : (eqBang[1]'(by decide)).toNat = 33 := rfl
   omega
  have hz0 : (0 : Int) ≤ ((rs[1]'p1).toNat : Int) := by omega
  have hz1 : ((rs[1]'p1).toNat : Int) < 256 := by have := (rs[1]'p1).toNat_lt; omega
  have hex : eqBang.extract 2 2 = ⟨#[]⟩ := rfl
  have hw2 : IntKind.i64.wrap 2 = 2 := by decide
  rw [b4]
  refine wp_loop_rounds 1 ?_
  rw [rounds_succ]; go_wp2
  go_step3
  go_wp2
  go_quiet (fail)
  go_wp2
  go_quiet (first | (go_at_call 160; (refine (index_byte0 _ rfl _ _ hz0 hz1).mono ?_); rintro e w' ⟨rfl, rfl⟩; exact ⟨rfl, _, rfl⟩))
  go_wp2; simp only [Exit.noGoto, Exit.inBlock, Exit.then]; go_ret
  exact ⟨rfl, ⟨_, rfl⟩⟩
theorem decode_span (s : ByteArray) (pos : Nat) (h : pos < s.size) (ha : 128 ≤ (s[pos]'h).toNat) : pos + (Utf8.decode s pos).2 ≤ s.size ∧ ∀ k, k < (Utf8.decode s pos).2 → 128 ≤ (s.get! (pos + k)).toNat := by
 have hn : ¬ (s[pos]'h).toNat < 128 := by omega
 have h0 : 128 ≤ (s.get! (pos + 0)).toNat := by rw [get_at s pos h]; exact ha
 have one : pos + 1 ≤ s.size ∧ ∀ k, k < 1 → 128 ≤ (s.get! (pos + k)).toNat := ⟨h, fun k hk => by
  have e : k = 0 := by omega
  rw [e]
  exact h0⟩
 simp only [Utf8.decode, get_at s pos h, hn, if_false]
 split
 ·
  rename_i hc
  simp only [Bool.and_eq_true, decide_eq_true_eq, beq_iff_eq] at hc
  split
  rotate_left
  · exact one
  refine ⟨by show pos + 2 ≤ s.size; omega, fun k hk => ?_⟩
  have hk2 : k < 2 := hk
  have : k = 0 ∨ k = 1 := by omega
  rcases this with rfl | rfl
  rotate_left
  · omega
  exact h0
 split
 ·
  rename_i hc
  simp only [Bool.and_eq_true, decide_eq_true_eq, beq_iff_eq] at hc
  split
  rotate_left
  · exact one
  refine ⟨by show pos + 3 ≤ s.size; omega, fun k hk => ?_⟩
  have hk2 : k < 3 := hk
  have : k = 0 ∨ k = 1 ∨ k = 2 := by omega
  rcases this with rfl | rfl | rfl
  · exact h0
  · omega
  omega
 split
 rotate_left
 · exact one
 rename_i hc
 simp only [Bool.and_eq_true, decide_eq_true_eq, beq_iff_eq] at hc
 split
 rotate_left
 · exact one
 refine ⟨by show pos + 4 ≤ s.size; omega, fun k hk => ?_⟩
 have hk2 : k < 4 := hk
 have : k = 0 ∨ k = 1 ∨ k = 2 ∨ k = 3 := by omega
 rcases this with rfl | rfl | rfl | rfl
 · exact h0
 · omega
 · omega
 omega
theorem no_any_span {s : ByteArray} {i n : Nat} (h : Lib.NoAny s.data.toList eqBang.data.toList i) (hs : i + n ≤ s.size) (hk : ∀ k, k < n → 128 ≤ (s.get! (i + k)).toNat) : Lib.NoAny s.data.toList eqBang.data.toList (i + n) := by
 intro j b hj hb; by_cases hji : j < i
 · exact h j b hji hb
 have hjs : j < s.size := by omega
 have h1 := hk (j - i) (by omega)
 rw [show i + (j - i) = j by omega] at h1
 have h2 : s.get! j = b := by
  have := get_at s j hjs
  rw [Nat.add_zero] at this; rw [this]; have h3 := Lib.data_getElem? s j hjs; rw [hb] at h3
  exact (Option.some.inj h3).symm
 rw [h2] at h1
 show ([61, 33] : List UInt8).contains b = false
 have n1 : b ≠ 61 := fun e => by subst e; exact absurd h1 (by decide)
 have n2 : b ≠ 33 := fun e => by subst e; exact absurd h1 (by decide)
 simp [n1, n2]
theorem index_rune_any (r : Int) (w : World) (h : 128 ≤ r) : Calls Tryz.prog 139 #[.string eqBang, .int .i32 r] w fun e w' => e = .returned (.int .i64 (-1)) ∧ Below w.heap.size w w' := by
 by_cases hne : r = 65533; rotate_left
 ·
  refine (index_rune_far r w h hne).mono ?_
  rintro e w' ⟨rfl, ⟨n, rfl⟩⟩
  exact ⟨rfl, pw_below_drewN (Below.refl _ _) n⟩
 subst hne
 refine (index_rune_err w).mono ?_
 rintro e w' ⟨rfl, pos, rfl⟩
 exact ⟨rfl, (Below.refl _ _).alloc (Nat.le_refl _) _⟩
theorem should_ascii (n : Int) (w : World) : Calls Tryz.prog 140 #[.int .i64 n] w fun e w' => e = .returned (.bool (decide (8 < n))) ∧ w' = w := Any.strings_shouldUseASCIISet (ρ := Tryz.lays153_ren) { Tryz.lays153 with } n w
theorem rune_ascii (s : ByteArray) (x : UInt8) (w : World) (h : x.toNat < 128) : Calls Tryz.prog 139 #[.string s, .int .i32 (x.toNat : Int)] w fun e w' => e = .returned (.int .i64 (Lib.indexByte s.data.toList x)) ∧ w' = w := by
 have h1 := Any.strings_IndexRune_ascii (ρ := Tryz.lays153_ren) (P := Tryz.prog) { Tryz.lays153 with } s (x.toNat : Int) w (by omega) (by omega)
 have hback : ((x.toNat : Int)).toNat.toUInt8 = x := by simp
 rw [hback] at h1; exact h1
theorem below_iterAt {w W : World} (h : Below w.heap.size w W) (q : Nat) (t : ByteArray) : Below w.heap.size w (W.iterAt w.heap.size t q) :=
 h.trans ⟨rfl, rfl, rfl, by simp [World.iterAt], fun k hk => by
  show (W.heap.setIfInBounds w.heap.size _)[k]? = _
  rw [Array.getElem?_setIfInBounds_ne (by omega)]⟩
set_option maxHeartbeats 4000000 in
set_option maxRecDepth 1000000 in
theorem index_any_short (s : ByteArray) (w : World) (h8 : s.size ≤ 8) :
  Calls Tryz.prog 107 #[.string s, .string eqBang] w fun e w' => e = .returned (.int .i64 (Lib.indexAny s.data.toList eqBang.data.toList)) ∧ Below w.heap.size w w' := by
 have hsz : eqBang.size = 2 := rfl
 have hemp : eqBang.toList.isEmpty = false := by rw [Lib.toList_data]; rfl
 have h8z : decide ((8 : Int) < (s.size : Int)) = false := decide_eq_false (by omega)
 have H0 : Aside0 ((w.iter s 0).heap[w.heap.size]? = some (.stringIter s 0) ∧ Below w.heap.size w (w.iter s 0)) := ⟨World.iter_heap w s 0, (Below.refl _ _).alloc (Nat.le_refl _) _⟩
 go_enter Tryz.func107, Tryz.ntmps107
 go_wp2_with fail
 refine (should_ascii _ _).mono ?_
 rintro e w1 ⟨rfl, hw⟩
 obtain rfl := hw.symm
 rw [h8z]; go_wp2
 go_loopg [9, 10] s.size (fun g _ _ wx => ∃ i : Nat, i + g = s.size ∧ Aside0 (wx.heap[w.heap.size]? = some (.stringIter s i) ∧ Below w.heap.size w wx) ∧ Aside0 (Lib.NoAny s.data.toList eqBang.data.toList i))
 case atStart => exact ⟨0, by omega, H0, ⟨Lib.NoAny.zero _ _⟩⟩
 case round =>
  obtain ⟨i, hig, HW, HN⟩ := hrel
  clear H0
  cases gk with
  | zero =>
   obtain rfl : i = s.size := by omega
   have hnx := fun ty => Go.Lib.run_next_end_at (P := Tryz.prog) wr w.heap.size s s.size ty HW.out.1 (by omega)
   go_wp2; go_ret
   exact ⟨by rw [Lib.indexAny_none (by rw [← Lib.size_eq]; exact HN.out)]; rfl, HW.out.2⟩
  | succ g =>
   have hi : i < s.size := by omega
   by_cases hx : (s[i]'hi).toNat < 128; rotate_left
   ·
    have hx' : 128 ≤ (s[i]'hi).toNat := by omega
    have hnx := fun ty => Go.Lib.run_next_any_at (P := Tryz.prog) wr w.heap.size s i ty HW.out.1 hi
    obtain ⟨hr, hn⟩ := decode_high s i hi hx'
    obtain ⟨hle, hsp⟩ := decode_span s i hi hx'
    generalize Utf8.decode s i = rn at hnx hr hn hle hsp
    obtain ⟨r, n⟩ := rn
    have HN1 := Aside0.mk (no_any_span HN.out hle hsp)
    have HW1 : Aside0 ((wr.iterAt w.heap.size s (i + n)).heap[w.heap.size]? = some (.stringIter s (i + n)) ∧ Below w.heap.size w (wr.iterAt w.heap.size s (i + n))) := ⟨Go.Lib.iterAt_heap _ _ _ _ _ HW.out.1, below_iterAt HW.out.2 _ _⟩
    generalize wr.iterAt w.heap.size s (i + n) = w2 at hnx HW1; clear hsp
    go_wp2_with fail
    refine (index_rune_any (r : Int) _ (by omega)).mono ?_
    rintro e w' ⟨rfl, hw⟩
    have HW2 := Aside0.mk (show w'.heap[w.heap.size]? = some (.stringIter s (i + n)) ∧ Below w.heap.size w w' from ⟨(hw.block _ ((Array.getElem?_eq_some_iff.1 HW1.out.1).1)).trans HW1.out.1, below_step HW1.out.2 hw⟩); clear hw; go_wp2
    go_roundg (s.size - (i + n))
    case measure => omega
    case rel => exact ⟨i + n, by omega, HW2, HN1⟩
   obtain ⟨x, hxe⟩ : ∃ x : UInt8, s[i]'hi = x := ⟨_, rfl⟩
   have hnx := fun ty => Go.Lib.run_next_ascii_at (P := Tryz.prog) wr w.heap.size s i ty HW.out.1 hi hx
   rw [hxe] at hnx hx
   have HX : Aside0 (s.data.toList[i]? = some x) := ⟨by rw [← hxe]; exact Lib.data_getElem? s i hi⟩
   have HW1 : Aside0 ((wr.iterAt w.heap.size s (i + 1)).heap[w.heap.size]? = some (.stringIter s (i + 1)) ∧ Below w.heap.size w (wr.iterAt w.heap.size s (i + 1))) := ⟨Go.Lib.iterAt_heap _ _ _ _ _ HW.out.1, below_iterAt HW.out.2 _ _⟩
   generalize wr.iterAt w.heap.size s (i + 1) = w2 at hnx HW1; clear hxe; have hcon := Lib.contains_iff_indexByte eqBang.data.toList x
   have hback : ((x.toNat : Int)).toNat.toUInt8 = x := by simp
   cases hin : eqBang.data.toList.contains x
   rotate_left
   ·
    rw [hin] at hcon
    have hge : decide ((0 : Int) ≤ Lib.indexByte eqBang.data.toList x) = true := hcon.symm
    clear hcon
    go_wp2_with fail
    refine (rune_ascii _ x _ hx).mono ?_
    rintro e w3 ⟨rfl, hw⟩
    obtain rfl := hw.symm
    go_wp2; go_ret
    exact ⟨by rw [Lib.indexAny_hit HN.out HX.out hin]; rfl, HW1.out.2⟩
   rw [hin] at hcon
   have hlt : decide ((0 : Int) ≤ Lib.indexByte eqBang.data.toList x) = false := hcon.symm
   clear hcon
   go_wp2_with fail
   refine (rune_ascii _ x _ hx).mono ?_
   rintro e w3 ⟨rfl, hw⟩
   obtain rfl := hw.symm
   go_wp2
   go_roundg g
   case measure => omega
   case rel => exact ⟨i + 1, by omega, HW1, ⟨HN.out.succ HX.out hin⟩⟩
theorem index_any_eb (s : ByteArray) (w : World) (hs : s.size < 4294967281) :
  Calls Tryz.prog 107 #[.string s, .string eqBang] w fun e w' => e = .returned (.int .i64 (Lib.indexAny s.data.toList eqBang.data.toList)) ∧ Below w.heap.size w w' := by
 by_cases h8 : s.size ≤ 8
 · exact index_any_short s w h8
 have h116 : (Tryz.prog.info? 135).map (fun i => (i.zero, i.size)) = some (some (.agg (Array.replicate 256 (.bool false))), 256) := by kernel_rfl
 refine (Tryz.strings_IndexAny_long (zero_of_info h116).1 s eqBang w (by decide) (by omega) hs (by decide) (fun j b hb => ?_)).mono ?_
 rotate_left
 ·
  rintro e w' ⟨rfl, rfl⟩
  exact ⟨rfl, ((Below.refl _ _).alloc (Nat.le_refl _) _).alloc (by simp) _⟩
 match j, hb with
 | 0, hb => cases hb; decide
 | 1, hb => cases hb; decide
 | (j + 2), hb => simp [eqBang] at hb
end Go.Proofs.YtkedidjjhhjdbaaGreatDoor.Pr
end
section
set_option linter.unusedVariables false
set_option linter.unusedSimpArgs false
namespace Go.Proofs.YtkedidjjhhjdbaaGreatDoor.Pr
open Go.RowKit Go.Proofs.YtkedidjjhhjdbaaGreatDoorW.PrintWords Go.Proofs.YtkedidjjhhjdbaaGreatDoorW.PrintLast Go.Proofs.YtkedidjjhhjdbaaGreatDoorW.PrintMore
def strings_IndexAny.f (a0 a1 : ByteArray) : Option Int := if a0.size < 4294967281 ∧ a1.data.toList = ([61, 33] : List UInt8) then some (Lib.indexAny a0.data.toList a1.data.toList) else none
theorem strings_IndexAny.calls (a0 a1 : ByteArray) (r : Int) (w : World) (h : strings_IndexAny.f a0 a1 = some r) :
  Calls Tryz.prog 107 #[.string a0, .string a1] w fun e w' => e = .returned (.int .i64 r) ∧ Below w.heap.size w w' := by
 unfold strings_IndexAny.f at h
 by_cases hs : a0.size < 4294967281 ∧ a1.data.toList = ([61, 33] : List UInt8); rotate_left
 · rw [if_neg hs] at h; cases h
 rw [if_pos hs] at h
 obtain rfl := Option.some.inj h
 have e : a1 = eqBang := by
  cases a1 with
  | mk d =>
   cases d with
   | mk l =>
    have h2 : l = [61, 33] := hs.2
    subst h2; rfl
 subst e; exact index_any_eb a0 w hs.1
end Go.Proofs.YtkedidjjhhjdbaaGreatDoor.Pr
end
section
namespace Go.Proofs.YtkedidjjhhjdbaaGreatDoor.Pr
open Go.RowKit Go.Proofs.YtkedidjjhhjdbaaGreatDoorW.PrintWords Go.Proofs.YtkedidjjhhjdbaaGreatDoorW.PrintLast Go.Proofs.YtkedidjjhhjdbaaGreatDoorW.PrintMore
attribute [local go_sem] max2_int min2_int max_two min_two max_three min_three max_four min_four strGtr strLeq strGeq
set_option linter.unusedVariables false
set_option linter.unusedSimpArgs false
def IsS161 (w0 W : World) (g : Nat) (f0 : ByteArray) (f1 : Int) (f2 : Bool) : Prop := W.heap[g]? = some (.cells #[.string f0, .int .i64 f1, .bool f2] 161 (0, 0)) ∧ w0.heap.size ≤ g
theorem IsS161.grown {w0 W : World} {g : Nat} {f0 : ByteArray} {f1 : Int} {f2 : Bool} {W1 : World} {row : Option Nat} (h : IsS161 w0 W g f0 f1 f2) (hw : W.grownBy W1 row) (hne : some g ≠ row) : IsS161 w0 W1 g f0 f1 f2 := by
 obtain ⟨hb, hg⟩ := h
 exact ⟨blk_grown hb hw hne, hg⟩
theorem IsS161.fresh {w0 W : World} {g : Nat} {f0 : ByteArray} {f1 : Int} {f2 : Bool} (h : IsS161 w0 W g f0 f1 f2) : ∀ k, W.heap.size ≤ k → k ≠ g := by
 obtain ⟨hb, hg⟩ := h
 exact Kd.freshB hb
theorem IsS161.kept {w0 W : World} {g : Nat} {f0 : ByteArray} {f1 : Int} {f2 : Bool} {W1 : World} {S : Nat → Prop} (h : IsS161 w0 W g f0 f1 f2) (hk : Kept W W1 S) (hne : ¬ S g) : IsS161 w0 W1 g f0 f1 f2 := by
 obtain ⟨hb, hg⟩ := h
 exact ⟨blk_kept hb hk hne, hg⟩
theorem IsS161.below {w0 W : World} {g : Nat} {f0 : ByteArray} {f1 : Int} {f2 : Bool} {W1 : World} (h : IsS161 w0 W g f0 f1 f2) (hw : Below W.heap.size W W1) : IsS161 w0 W1 g f0 f1 f2 := h.grown (grown_of_below hw none) (by simp)
theorem IsS161.alloc {w0 W : World} {g : Nat} {f0 : ByteArray} {f1 : Int} {f2 : Bool} (h : IsS161 w0 W g f0 f1 f2) (o : Obj) : IsS161 w0 (W.alloc o) g f0 f1 f2 := h.below (below_alloc (Below.refl _ _) o)
theorem IsS161.drewN {w0 W : World} {g : Nat} {f0 : ByteArray} {f1 : Int} {f2 : Bool} (h : IsS161 w0 W g f0 f1 f2) (m : Nat) : IsS161 w0 (W.drewN m) g f0 f1 f2 := h
theorem IsS161.drew {w0 W : World} {g : Nat} {f0 : ByteArray} {f1 : Int} {f2 : Bool} (h : IsS161 w0 W g f0 f1 f2) : IsS161 w0 W.drew g f0 f1 f2 := h
theorem IsS161.at_ {w0 W : World} {g : Nat} {f0 : ByteArray} {f1 : Int} {f2 : Bool} {w' : World} {m : Nat} (hq : W.drewN m = w') (h : IsS161 w0 W g f0 f1 f2) : IsS161 w0 w' g f0 f1 f2 := by subst hq; exact IsS161.drewN h m
theorem IsS161.apart {w0 W : World} {g : Nat} {f0 : ByteArray} {f1 : Int} {f2 : Bool} {α : Type} {d : Kd α} {e : Nat} {base : Nat} {ok : Nat → Prop} {v : Value} {xs : List α} (h : IsS161 w0 W g f0 f1 f2) (ho : d.R e W base ok v xs) (ht : ∀ q, q ∈ e :: d.E → q ≠ 161) : d.R e W base (fun k => ok k ∧ k ≠ g) v xs := by
 obtain ⟨hb, hg⟩ := h
 exact Kd.R_types ho hb ht
theorem IsS161.lt {w0 W : World} {g : Nat} {f0 : ByteArray} {f1 : Int} {f2 : Bool} (h : IsS161 w0 W g f0 f1 f2) : g < W.heap.size := by
 obtain ⟨hb, hg⟩ := h
 exact blk_lt hb
theorem IsS161.ge {w0 W : World} {g : Nat} {f0 : ByteArray} {f1 : Int} {f2 : Bool} (h : IsS161 w0 W g f0 f1 f2) : w0.heap.size ≤ g := by
 obtain ⟨hb, hg⟩ := h
 exact hg
theorem IsS161.far {w0 W : World} {g : Nat} {f0 : ByteArray} {f1 : Int} {f2 : Bool} {p : Addr} (h : IsS161 w0 W g f0 f1 f2) (hne : g ≠ p.block) (u : Value) : IsS161 w0 (W.setCell p u) g f0 f1 f2 := by
 obtain ⟨hb, hg⟩ := h
 exact ⟨blk_far hb hne u, hg⟩
theorem cellS161_0 {W : World} {g : Nat} {f0 : ByteArray} {f1 : Int} {f2 : Bool} (h : W.heap[g]? = some (.cells #[.string f0, .int .i64 f1, .bool f2] 161 (0, 0))) : W.cell? ⟨g, 0, none⟩ = some (.string f0) := (blk_cell h 0).trans rfl
theorem IsS161.set_0 {w0 W : World} {g : Nat} {f0 : ByteArray} {f1 : Int} {f2 : Bool} (h : IsS161 w0 W g f0 f1 f2) (x : ByteArray) : IsS161 w0 (W.setCell ⟨g, 0, none⟩ (.string x)) g x f1 f2 := by
 obtain ⟨hb, hg⟩ := h
 exact ⟨by simpa using blk_set hb 0 (.string x), hg⟩
theorem cellS161_1 {W : World} {g : Nat} {f0 : ByteArray} {f1 : Int} {f2 : Bool} (h : W.heap[g]? = some (.cells #[.string f0, .int .i64 f1, .bool f2] 161 (0, 0))) : W.cell? ⟨g, 1, none⟩ = some (.int .i64 f1) := (blk_cell h 1).trans rfl
theorem IsS161.set_1 {w0 W : World} {g : Nat} {f0 : ByteArray} {f1 : Int} {f2 : Bool} (h : IsS161 w0 W g f0 f1 f2) (x : Int) : IsS161 w0 (W.setCell ⟨g, 1, none⟩ (.int .i64 x)) g f0 x f2 := by
 obtain ⟨hb, hg⟩ := h
 exact ⟨by simpa using blk_set hb 1 (.int .i64 x), hg⟩
theorem cellS161_2 {W : World} {g : Nat} {f0 : ByteArray} {f1 : Int} {f2 : Bool} (h : W.heap[g]? = some (.cells #[.string f0, .int .i64 f1, .bool f2] 161 (0, 0))) : W.cell? ⟨g, 2, none⟩ = some (.bool f2) := (blk_cell h 2).trans rfl
theorem IsS161.set_2 {w0 W : World} {g : Nat} {f0 : ByteArray} {f1 : Int} {f2 : Bool} (h : IsS161 w0 W g f0 f1 f2) (x : Bool) : IsS161 w0 (W.setCell ⟨g, 2, none⟩ (.bool x)) g f0 f1 x := by
 obtain ⟨hb, hg⟩ := h
 exact ⟨by simpa using blk_set hb 2 (.bool x), hg⟩
theorem IsS161.new (w0 W : World) (f0 : ByteArray) (f1 : Int) (f2 : Bool) (hB : Below w0.heap.size w0 W) : IsS161 w0 (W.alloc (.cells #[.string f0, .int .i64 f1, .bool f2] 161)) W.heap.size f0 f1 f2 := ⟨by simpa using heap_alloc_new W _, hB.size⟩
def attr_reader_take.f (s0_0 : ByteArray) (s0_1 : Int) (s0_2 : Bool) (a1 : ByteArray) : Option (Bool × ByteArray × Int × Bool) := if s0_2 = true then (some (false, s0_0, s0_1, s0_2)) else (if 0 ≤ s0_1 then (if s0_1 ≤ (s0_0.size : Int) then ((strings_HasPrefix.f (s0_0.extract (s0_1 : Int).toNat s0_0.size) a1).bind fun t160 => (if t160 = true then (some (true, s0_0, wrap64 (s0_1 + (a1.size : Int)), s0_2)) else (some (false, s0_0, s0_1, s0_2)))) else (none)) else (none))
set_option maxHeartbeats 8000000 in
set_option maxRecDepth 100000 in
theorem attr_reader_take.calls (g : Nat) (s0_0 : ByteArray) (s0_1 : Int) (s0_2 : Bool) (a1 : ByteArray) (r1 : Bool) (r2 : ByteArray) (r3 : Int) (r4 : Bool) (w0 w : World) (hI : IsS161 w0 w g s0_0 s0_1 s0_2) (hB : Below w0.heap.size w0 w) (h : attr_reader_take.f s0_0 s0_1 s0_2 a1 = some (r1, r2, r3, r4)) :
  Calls Tryz.prog 172 #[.pointer (some ⟨g, 0, none⟩), .string a1] w fun e w' => e = .returned (.bool r1) ∧ IsS161 w0 w' g r2 r3 r4 ∧ Below w0.heap.size w0 w' ∧ KeepBut w w' g none := by
 have HI0 := Aside0.mk hI; have HK := Aside0.mk (KeepBut.refl w g none); have HL := Aside0.mk hB.size; clear hI; have HW0 := Aside0.mk hB.size; have HB := Aside0.mk hB; clear hB
 have H : (if s0_2 = true then (some (false, s0_0, s0_1, s0_2)) else (if 0 ≤ s0_1 then (if s0_1 ≤ (s0_0.size : Int) then ((strings_HasPrefix.f (s0_0.extract (s0_1 : Int).toNat s0_0.size) a1).bind fun t160 => (if t160 = true then (some (true, s0_0, wrap64 (s0_1 + (a1.size : Int)), s0_2)) else (some (false, s0_0, s0_1, s0_2)))) else (none)) else (none))) = some (r1, r2, r3, r4) := h
 clear h; by_cases c3 : s0_2 = true
 ·
  subst c3
  have H1 : (some (false, s0_0, s0_1, true)) = some (r1, r2, r3, r4) := by rw [if_pos rfl] at H; exact H
  clear H; have H := H1; clear H1
  simp only [Option.some.injEq, Prod.mk.injEq] at H
  obtain ⟨rfl, rfl, rfl, rfl⟩ := H
  obtain ⟨HGz4, hgz4⟩ := HI0.out
  have hcz4_0 := cellS161_0 HGz4; have hcz4_1 := cellS161_1 HGz4; have hcz4_2 := cellS161_2 HGz4; have hfz4_0 := blk_frozen HGz4 0; have hfz4_1 := blk_frozen HGz4 1; have hfz4_2 := blk_frozen HGz4 2; clear HGz4 hgz4
  go_enter Tryz.func172, Tryz.ntmps172
  go_wp2
  repeat (go_quiet (fail); try go_wp2)
  go_ret
  exact ⟨eR, by repeat (first | (with_reducible first | exact HI0.out | apply IsS161.alloc | apply IsS161.drewN | apply IsS161.drew | apply IsS161.set_0 | apply IsS161.set_1 | apply IsS161.set_2) | exact HI0.out), by repeat (first | (with_reducible first | exact HB.out | apply below_alloc | apply pw_below_drewN | apply below_drew1 | refine below_set ?_ (IsS161.ge HI0.out)) | exact HB.out), by repeat (first | (with_reducible first | exact HK.out | apply KeepBut.set_ | apply keep_drewN | apply keep_drew | apply keep_alloc) | exact HK.out)⟩
 replace c3 := Bool.eq_false_iff.mpr c3
 subst c3
 have H1 : (if 0 ≤ s0_1 then (if s0_1 ≤ (s0_0.size : Int) then ((strings_HasPrefix.f (s0_0.extract (s0_1 : Int).toNat s0_0.size) a1).bind fun t160 => (if t160 = true then (some (true, s0_0, wrap64 (s0_1 + (a1.size : Int)), false)) else (some (false, s0_0, s0_1, false)))) else (none)) else (none)) = some (r1, r2, r3, r4) := by rw [if_neg (show ¬ (false = true) by decide)] at H; exact H
 clear H; have H := H1; clear H1; by_cases c5 : 0 ≤ s0_1; rotate_left
 · rw [if_neg c5] at H; exact absurd H (by simp)
 rw [if_pos c5] at H; have c5b0 := eq_true c5
 have c5b1 : decide (0 ≤ s0_1) = true := decide_eq_true c5
 clear c5; by_cases c6 : s0_1 ≤ (s0_0.size : Int); rotate_left
 · rw [if_neg c6] at H; exact absurd H (by simp)
 rw [if_pos c6] at H; have c6b0 := eq_true c6
 have c6b1 : decide (s0_1 ≤ (s0_0.size : Int)) = true := decide_eq_true c6
 clear c6
 replace H := Option.bind_eq_some_iff.mp H
 obtain ⟨t160, A70, H⟩ := H
 replace H : (if t160 = true then (some (true, s0_0, wrap64 (s0_1 + (a1.size : Int)), false)) else (some (false, s0_0, s0_1, false))) = some (r1, r2, r3, r4) := H
 have A7 := Aside0.mk A70; clear A70; by_cases c8 : t160 = true
 ·
  subst c8
  have H1 : (some (true, s0_0, wrap64 (s0_1 + (a1.size : Int)), false)) = some (r1, r2, r3, r4) := by rw [if_pos rfl] at H; exact H
  clear H; have H := H1; clear H1
  simp only [Option.some.injEq, Prod.mk.injEq] at H
  obtain ⟨rfl, rfl, rfl, rfl⟩ := H
  obtain ⟨HGz9, hgz9⟩ := HI0.out
  have hcz9_0 := cellS161_0 HGz9; have hcz9_1 := cellS161_1 HGz9; have hcz9_2 := cellS161_2 HGz9; have hfz9_0 := blk_frozen HGz9 0; have hfz9_1 := blk_frozen HGz9 1; have hfz9_2 := blk_frozen HGz9 2; clear HGz9 hgz9
  go_enter Tryz.func172, Tryz.ntmps172
  go_wp2_with (first | (go_at_call 108; (with_reducible refine (strings_HasPrefix.calls (s0_0.extract (s0_1 : Int).toNat s0_0.size) a1 true _ A7.out).mono ?_); rintro e w' ⟨rfl, ⟨nd, rfl⟩⟩; (try first | exact ⟨rfl, _, World.drewN_drewN _ _ _⟩ | exact ⟨rfl, _, Eq.trans (World.drewN_drewN _ _ _) (congrArg (World.drewN _) (Nat.add_assoc _ _ _))⟩)))
  repeat (go_quiet (first | (go_at_call 108; (with_reducible refine (strings_HasPrefix.calls (s0_0.extract (s0_1 : Int).toNat s0_0.size) a1 true _ A7.out).mono ?_); rintro e w' ⟨rfl, ⟨nd, rfl⟩⟩; (try first | exact ⟨rfl, _, World.drewN_drewN _ _ _⟩ | exact ⟨rfl, _, Eq.trans (World.drewN_drewN _ _ _) (congrArg (World.drewN _) (Nat.add_assoc _ _ _))⟩))); try go_wp2_with (first | (go_at_call 108; (with_reducible refine (strings_HasPrefix.calls (s0_0.extract (s0_1 : Int).toNat s0_0.size) a1 true _ A7.out).mono ?_); rintro e w' ⟨rfl, ⟨nd, rfl⟩⟩; (try first | exact ⟨rfl, _, World.drewN_drewN _ _ _⟩ | exact ⟨rfl, _, Eq.trans (World.drewN_drewN _ _ _) (congrArg (World.drewN _) (Nat.add_assoc _ _ _))⟩))))
  go_ret
  exact ⟨eR, by repeat (first | (with_reducible first | exact HI0.out | apply IsS161.alloc | apply IsS161.drewN | apply IsS161.drew | apply IsS161.set_0 | apply IsS161.set_1 | apply IsS161.set_2) | exact HI0.out), by repeat (first | (with_reducible first | exact HB.out | apply below_alloc | apply pw_below_drewN | apply below_drew1 | refine below_set ?_ (IsS161.ge HI0.out)) | exact HB.out), by repeat (first | (with_reducible first | exact HK.out | apply KeepBut.set_ | apply keep_drewN | apply keep_drew | apply keep_alloc) | exact HK.out)⟩
 replace c8 := Bool.eq_false_iff.mpr c8
 subst c8
 have H1 : (some (false, s0_0, s0_1, false)) = some (r1, r2, r3, r4) := by rw [if_neg (show ¬ (false = true) by decide)] at H; exact H
 clear H; have H := H1; clear H1
 simp only [Option.some.injEq, Prod.mk.injEq] at H
 obtain ⟨rfl, rfl, rfl, rfl⟩ := H
 obtain ⟨HGz10, hgz10⟩ := HI0.out
 have hcz10_0 := cellS161_0 HGz10; have hcz10_1 := cellS161_1 HGz10; have hcz10_2 := cellS161_2 HGz10; have hfz10_0 := blk_frozen HGz10 0; have hfz10_1 := blk_frozen HGz10 1; have hfz10_2 := blk_frozen HGz10 2; clear HGz10 hgz10
 go_enter Tryz.func172, Tryz.ntmps172
 go_wp2_with (first | (go_at_call 108; (with_reducible refine (strings_HasPrefix.calls (s0_0.extract (s0_1 : Int).toNat s0_0.size) a1 false _ A7.out).mono ?_); rintro e w' ⟨rfl, ⟨nd, rfl⟩⟩; (try first | exact ⟨rfl, _, World.drewN_drewN _ _ _⟩ | exact ⟨rfl, _, Eq.trans (World.drewN_drewN _ _ _) (congrArg (World.drewN _) (Nat.add_assoc _ _ _))⟩)))
 repeat (go_quiet (first | (go_at_call 108; (with_reducible refine (strings_HasPrefix.calls (s0_0.extract (s0_1 : Int).toNat s0_0.size) a1 false _ A7.out).mono ?_); rintro e w' ⟨rfl, ⟨nd, rfl⟩⟩; (try first | exact ⟨rfl, _, World.drewN_drewN _ _ _⟩ | exact ⟨rfl, _, Eq.trans (World.drewN_drewN _ _ _) (congrArg (World.drewN _) (Nat.add_assoc _ _ _))⟩))); try go_wp2_with (first | (go_at_call 108; (with_reducible refine (strings_HasPrefix.calls (s0_0.extract (s0_1 : Int).toNat s0_0.size) a1 false _ A7.out).mono ?_); rintro e w' ⟨rfl, ⟨nd, rfl⟩⟩; (try first | exact ⟨rfl, _, World.drewN_drewN _ _ _⟩ | exact ⟨rfl, _, Eq.trans (World.drewN_drewN _ _ _) (congrArg (World.drewN _) (Nat.add_assoc _ _ _))⟩))))
 go_ret
 exact ⟨eR, by repeat (first | (with_reducible first | exact HI0.out | apply IsS161.alloc | apply IsS161.drewN | apply IsS161.drew | apply IsS161.set_0 | apply IsS161.set_1 | apply IsS161.set_2) | exact HI0.out), by repeat (first | (with_reducible first | exact HB.out | apply below_alloc | apply pw_below_drewN | apply below_drew1 | refine below_set ?_ (IsS161.ge HI0.out)) | exact HB.out), by repeat (first | (with_reducible first | exact HK.out | apply KeepBut.set_ | apply keep_drewN | apply keep_drew | apply keep_alloc) | exact HK.out)⟩
def attr_reader_need.f (s0_0 : ByteArray) (s0_1 : Int) (s0_2 : Bool) (a1 : ByteArray) : Option (ByteArray × Int × Bool) := (attr_reader_take.f s0_0 s0_1 s0_2 a1).bind fun bt161 => (if bt161.1 = true then (some (bt161.2.1, bt161.2.2.1, bt161.2.2.2)) else (some (bt161.2.1, bt161.2.2.1, true)))
set_option maxHeartbeats 8000000 in
set_option maxRecDepth 100000 in
theorem attr_reader_need.calls (g : Nat) (s0_0 : ByteArray) (s0_1 : Int) (s0_2 : Bool) (a1 : ByteArray) (r1 : ByteArray) (r2 : Int) (r3 : Bool) (w0 w : World) (hI : IsS161 w0 w g s0_0 s0_1 s0_2) (hB : Below w0.heap.size w0 w) (h : attr_reader_need.f s0_0 s0_1 s0_2 a1 = some (r1, r2, r3)) :
  Calls Tryz.prog 162 #[.pointer (some ⟨g, 0, none⟩), .string a1] w fun e w' => e = .returned (.tuple #[]) ∧ IsS161 w0 w' g r1 r2 r3 ∧ Below w0.heap.size w0 w' ∧ KeepBut w w' g none := by
 have HI0 := Aside0.mk hI; have HK := Aside0.mk (KeepBut.refl w g none); have HL := Aside0.mk hB.size; clear hI; have HW0 := Aside0.mk hB.size; have HB := Aside0.mk hB; clear hB
 have H : ((attr_reader_take.f s0_0 s0_1 s0_2 a1).bind fun bt161 => (if bt161.1 = true then (some (bt161.2.1, bt161.2.2.1, bt161.2.2.2)) else (some (bt161.2.1, bt161.2.2.1, true)))) = some (r1, r2, r3) := h
 clear h
 replace H := Option.bind_eq_some_iff.mp H
 obtain ⟨⟨t161, t162, t163, t164⟩, A30, H⟩ := H
 replace H : (if t161 = true then (some (t162, t163, t164)) else (some (t162, t163, true))) = some (r1, r2, r3) := H
 have A3 := Aside0.mk A30; clear A30; by_cases c4 : t161 = true
 ·
  subst c4
  have H1 : (some (t162, t163, t164)) = some (r1, r2, r3) := by rw [if_pos rfl] at H; exact H
  clear H; have H := H1; clear H1
  simp only [Option.some.injEq, Prod.mk.injEq] at H
  obtain ⟨rfl, rfl, rfl⟩ := H
  go_enter Tryz.func162, Tryz.ntmps162
  go_wp2_with (first | ((with_reducible refine gate_callee (f := 172) rfl ?_); refine goesL_ (some 7) rfl rfl Tryz.func172 (by kernel_rfl) rfl #[.pointer (some ⟨g, 0, none⟩), .string a1] rfl lR ?_; (with_reducible refine (attr_reader_take.calls g s0_0 s0_1 s0_2 a1 true t162 t163 t164 w0 _ ?side1 ?side2 A3.out).mono ?_); (case side1 => repeat (first | (with_reducible first | exact HI0.out | apply IsS161.alloc | apply IsS161.drewN | apply IsS161.drew | apply IsS161.set_0 | apply IsS161.set_1 | apply IsS161.set_2) | exact HI0.out)); (case side2 => repeat (first | (with_reducible first | exact HB.out | apply below_alloc | apply pw_below_drewN | apply below_drew1 | refine below_set ?_ (IsS161.ge HI0.out)) | exact HB.out)); rintro e w5 ⟨rfl, hi, hb, hk⟩; refine ⟨_, rfl, ?_⟩; have n0_ := Aside0.mk (KeepBut.trans (by repeat (first | (with_reducible first | exact HK.out | apply KeepBut.set_ | apply keep_drewN | apply keep_drew | apply keep_alloc) | exact HK.out)) hk (.inl rfl)); have n1_ := Aside0.mk (hb); have n2_ := Aside0.mk (hi); clear HK; clear HB; clear HI0; have HK := n0_; have HB := n1_; have HI0 := n2_; clear n0_ n1_ n2_; (try clear hb); (try clear hb2); (try clear hk); (try clear hi); obtain ⟨HGz6, hgz6⟩ := HI0.out; have hcz6_0 := cellS161_0 HGz6; have hcz6_1 := cellS161_1 HGz6; have hcz6_2 := cellS161_2 HGz6; have hfz6_0 := blk_frozen HGz6 0; have hfz6_1 := blk_frozen HGz6 1; have hfz6_2 := blk_frozen HGz6 2; clear HGz6 hgz6))
  first | go_end0 | ((try simp only [Exit.inBlock, Exit.then]); refine bodyPost_ret (results_none rfl _ _ _) rfl ?_)
  exact ⟨eR, by repeat (first | (with_reducible first | exact HI0.out | apply IsS161.alloc | apply IsS161.drewN | apply IsS161.drew | apply IsS161.set_0 | apply IsS161.set_1 | apply IsS161.set_2) | exact HI0.out), by repeat (first | (with_reducible first | exact HB.out | apply below_alloc | apply pw_below_drewN | apply below_drew1 | refine below_set ?_ (IsS161.ge HI0.out)) | exact HB.out), by repeat (first | (with_reducible first | exact HK.out | apply KeepBut.set_ | apply keep_drewN | apply keep_drew | apply keep_alloc) | exact HK.out)⟩
 replace c4 := Bool.eq_false_iff.mpr c4
 subst c4
 have H1 : (some (t162, t163, true)) = some (r1, r2, r3) := by rw [if_neg (show ¬ (false = true) by decide)] at H; exact H
 clear H; have H := H1; clear H1
 simp only [Option.some.injEq, Prod.mk.injEq] at H
 obtain ⟨rfl, rfl, rfl⟩ := H
 go_enter Tryz.func162, Tryz.ntmps162
 go_wp2_with (first | ((with_reducible refine gate_callee (f := 172) rfl ?_); refine goesL_ (some 7) rfl rfl Tryz.func172 (by kernel_rfl) rfl #[.pointer (some ⟨g, 0, none⟩), .string a1] rfl lR ?_; (with_reducible refine (attr_reader_take.calls g s0_0 s0_1 s0_2 a1 false t162 t163 t164 w0 _ ?side1 ?side2 A3.out).mono ?_); (case side1 => repeat (first | (with_reducible first | exact HI0.out | apply IsS161.alloc | apply IsS161.drewN | apply IsS161.drew | apply IsS161.set_0 | apply IsS161.set_1 | apply IsS161.set_2) | exact HI0.out)); (case side2 => repeat (first | (with_reducible first | exact HB.out | apply below_alloc | apply pw_below_drewN | apply below_drew1 | refine below_set ?_ (IsS161.ge HI0.out)) | exact HB.out)); rintro e w7 ⟨rfl, hi, hb, hk⟩; refine ⟨_, rfl, ?_⟩; have n0_ := Aside0.mk (KeepBut.trans (by repeat (first | (with_reducible first | exact HK.out | apply KeepBut.set_ | apply keep_drewN | apply keep_drew | apply keep_alloc) | exact HK.out)) hk (.inl rfl)); have n1_ := Aside0.mk (hb); have n2_ := Aside0.mk (hi); clear HK; clear HB; clear HI0; have HK := n0_; have HB := n1_; have HI0 := n2_; clear n0_ n1_ n2_; (try clear hb); (try clear hb2); (try clear hk); (try clear hi); obtain ⟨HGz8, hgz8⟩ := HI0.out; have hcz8_0 := cellS161_0 HGz8; have hcz8_1 := cellS161_1 HGz8; have hcz8_2 := cellS161_2 HGz8; have hfz8_0 := blk_frozen HGz8 0; have hfz8_1 := blk_frozen HGz8 1; have hfz8_2 := blk_frozen HGz8 2; clear HGz8 hgz8))
 first | go_end0 | ((try simp only [Exit.inBlock, Exit.then]); refine bodyPost_ret (results_none rfl _ _ _) rfl ?_)
 exact ⟨eR, by repeat (first | (with_reducible first | exact HI0.out | apply IsS161.alloc | apply IsS161.drewN | apply IsS161.drew | apply IsS161.set_0 | apply IsS161.set_1 | apply IsS161.set_2) | exact HI0.out), by repeat (first | (with_reducible first | exact HB.out | apply below_alloc | apply pw_below_drewN | apply below_drew1 | refine below_set ?_ (IsS161.ge HI0.out)) | exact HB.out), by repeat (first | (with_reducible first | exact HK.out | apply KeepBut.set_ | apply keep_drewN | apply keep_drew | apply keep_alloc) | exact HK.out)⟩
end Go.Proofs.YtkedidjjhhjdbaaGreatDoor.Pr
end
section
set_option linter.unusedVariables false
set_option linter.unusedSimpArgs false
namespace Go.Proofs.YtkedidjjhhjdbaaGreatDoor.Pr
open Go.RowKit Go.Proofs.YtkedidjjhhjdbaaGreatDoorW.PrintWords Go.Proofs.YtkedidjjhhjdbaaGreatDoorW.PrintLast Go.Proofs.YtkedidjjhhjdbaaGreatDoorW.PrintMore
def attr_reader_peek.f (s0_0 : ByteArray) (s0_1 : Int) (s0_2 : Bool) : Option Int := if s0_1 < (s0_0.size : Int) then (if 0 ≤ s0_1 then some (bt s0_0 s0_1) else none) else some 0
set_option maxHeartbeats 8000000 in
set_option maxRecDepth 100000 in
theorem attr_reader_peek.calls (g : Nat) (s0_0 : ByteArray) (s0_1 : Int) (s0_2 : Bool) (r : Int) (w0 w : World) (hI : IsS161 w0 w g s0_0 s0_1 s0_2) (hB : Below w0.heap.size w0 w) (h : attr_reader_peek.f s0_0 s0_1 s0_2 = some r) :
  Calls Tryz.prog 163 #[.pointer (some ⟨g, 0, none⟩)] w fun e w' => e = .returned (.int .u8 r) ∧ Drawn0 w w' := by
 clear hB
 unfold attr_reader_peek.f at h
 obtain ⟨HG, hg⟩ := hI
 have hc0 := cellS161_0 HG; have hc1 := cellS161_1 HG; have hc2 := cellS161_2 HG; have hf0 := blk_frozen HG 0; have hf1 := blk_frozen HG 1; have hf2 := blk_frozen HG 2; clear HG hg; by_cases c2 : s0_1 < (s0_0.size : Int); rotate_left
 ·
  rw [if_neg c2] at h
  obtain rfl := Option.some.inj h
  clear h
  have c2b0 : decide (s0_1 < (s0_0.size : Int)) = false := decide_eq_false c2
  clear c2
  go_enter Tryz.func163, Tryz.ntmps163
  go_wp2
  repeat (go_quiet (fail); try go_wp2)
  go_ret
  first | exact ⟨rfl, ⟨⟨_, rfl⟩⟩⟩ | exact ⟨rfl, ⟨⟨_, World.drewN_drewN _ _ _⟩⟩⟩ | exact ⟨rfl, Drawn0.refl _⟩
 rw [if_pos c2] at h
 have c2b0 : decide (s0_1 < (s0_0.size : Int)) = true := decide_eq_true c2
 by_cases c3 : 0 ≤ s0_1; rotate_left
 · rw [if_neg c3] at h; cases h
 rw [if_pos c3] at h
 obtain rfl := Option.some.inj h
 clear h; have hx4 := bt_at s0_0 s0_1; replace c2 := eq_true c2; replace c3 := eq_true c3
 go_enter Tryz.func163, Tryz.ntmps163
 go_wp2
 repeat (go_quiet (fail); try go_wp2)
 go_ret
 first | exact ⟨rfl, ⟨⟨_, rfl⟩⟩⟩ | exact ⟨rfl, ⟨⟨_, World.drewN_drewN _ _ _⟩⟩⟩ | exact ⟨rfl, Drawn0.refl _⟩
end Go.Proofs.YtkedidjjhhjdbaaGreatDoor.Pr
end
section
set_option linter.unusedVariables false
set_option linter.unusedSimpArgs false
namespace Go.Proofs.YtkedidjjhhjdbaaGreatDoor.Pr
open Go.RowKit Go.Proofs.YtkedidjjhhjdbaaGreatDoorW.PrintWords Go.Proofs.YtkedidjjhhjdbaaGreatDoorW.PrintLast Go.Proofs.YtkedidjjhhjdbaaGreatDoorW.PrintMore
def attr_reader_quoted.l0 : Nat → ByteArray → Int → Bool → List UInt8 → Option (ByteArray × ByteArray × Int × Bool)
  | 0, _, _, _, _ => none
  | k + 1, s, i, bad, acc =>
    if bad = true then some (⟨#[]⟩, s, i, true)
    else if i < (s.size : Int) then
      (attr_reader_peek.f s i bad).bind fun c =>
        if c = 34 then some (⟨acc.toArray⟩, s, wrap64 (i + 1), bad)
        else if c = 10 then some (⟨#[]⟩, s, i, true)
        else if c = 92 then
          (attr_reader_peek.f s (wrap64 (i + 1)) bad).bind fun c2 =>
            if wrap64 (i + 1) < (s.size : Int) then
              if c2 = 110 then (if acc.length < 140737488355328 then attr_reader_quoted.l0 k s (wrap64 (wrap64 (i + 1) + 1)) bad (acc ++ [10]) else none)
              else if c2 = 34 then (if acc.length < 140737488355328 then attr_reader_quoted.l0 k s (wrap64 (wrap64 (i + 1) + 1)) bad (acc ++ [34]) else none)
              else if c2 = 92 then (if acc.length < 140737488355328 then attr_reader_quoted.l0 k s (wrap64 (wrap64 (i + 1) + 1)) bad (acc ++ [92]) else none)
              else some (⟨#[]⟩, s, wrap64 (i + 1), true)
            else some (⟨#[]⟩, s, wrap64 (i + 1), true)
        else if acc.length < 140737488355328 then attr_reader_quoted.l0 k s (wrap64 (i + 1)) bad (acc ++ [UInt8.ofNat c.toNat]) else none
    else some (⟨#[]⟩, s, i, true)
def attr_reader_quoted.f (k : Nat) (s0_0 : ByteArray) (s0_1 : Int) (s0_2 : Bool) : Option (ByteArray × ByteArray × Int × Bool) :=
  (attr_reader_need.f s0_0 s0_1 s0_2 (⟨#[34]⟩ : ByteArray)).bind fun x => attr_reader_quoted.l0 k x.1 x.2.1 x.2.2 []
theorem isBuilder_move {T e : TypeId} {B b : Nat} {bs : List Value} {W W' : World} (h : Lib.IsBuilder T e B b bs W) (hm : ∀ i, B ≤ i → i < W.heap.size → W'.heap[i]? = W.heap[i]?) : Lib.IsBuilder T e B b bs W' := by
 have key : ∀ p, Lib.BuilderAt T e B b p bs W → Lib.BuilderAt T e B b p bs W' := by
  rintro p ⟨h1, v, h2, h3, h4⟩
  refine ⟨h1, v, (hm b h1 (Array.getElem?_eq_some_iff.1 h2).1).trans h2, own_move h3 (fun k hk => hm k (own_base h3 k hk) (own_lt h3 k hk)), h4⟩
 rcases h with h | h
 · exact .inl (key _ h)
 exact .inr (key _ h)
theorem isBuilder_keep {T e : TypeId} {B b g : Nat} {bs : List Value} {W W' : World} (h : Lib.IsBuilder T e B b bs W) (hk : KeepBut W W' g none) (hg : g < B) : Lib.IsBuilder T e B b bs W' :=
 isBuilder_move h (fun i hi hl => hk.2 i hl (by omega) (by simp))
theorem isBuilder_set {T e : TypeId} {B b g j : Nat} {bs : List Value} {W : World} {u : Value} (h : Lib.IsBuilder T e B b bs W) (hg : g < B) : Lib.IsBuilder T e B b bs (W.setCell ⟨g, j, none⟩ u) :=
 isBuilder_move h (fun i hi hl => Below.heap_setCell W _ u i (by show i ≠ g; omega))
theorem byteCells_snoc (l : List UInt8) (c : UInt8) (x : Int) (h : x = (c.toNat : Int)) : Lib.byteCells l ++ [.int .u8 x] = Lib.byteCells (l ++ [c]) := by
 subst h; simp [Lib.byteCells]
theorem byteCells_len (l : List UInt8) : (Lib.byteCells l).length = l.length := by simp [Lib.byteCells]
structure QI (w0 w : World) (g : Nat) (s : ByteArray) (i : Int) (bad : Bool) (acc : List UInt8) (W : World) : Prop where
  st : IsS161 w0 W g s i bad
  bu : Lib.IsBuilder 76 5 w.heap.size w.heap.size (Lib.byteCells acc) W
  be : Below w0.heap.size w0 W
  ke : KeepBut w W g none
theorem QI.drewN {w0 w W : World} {g : Nat} {s : ByteArray} {i : Int} {bad : Bool} {acc : List UInt8} (h : QI w0 w g s i bad acc W) (n : Nat) : QI w0 w g s i bad acc (W.drewN n) :=
 ⟨h.st.drewN n, h.bu, pw_below_drewN h.be n, keep_drewN h.ke n⟩
theorem QI.at_ {w0 w W : World} {g : Nat} {s : ByteArray} {i : Int} {bad : Bool} {acc : List UInt8} (h : QI w0 w g s i bad acc W) (hg : g < w.heap.size) (x : Int) : QI w0 w g s x bad acc (W.setCell ⟨g, 1, none⟩ (.int .i64 x)) :=
 ⟨h.st.set_1 x, isBuilder_set h.bu hg, below_set h.be h.st.ge, h.ke.set_ _ _⟩
theorem QI.bad_ {w0 w W : World} {g : Nat} {s : ByteArray} {i : Int} {bad : Bool} {acc : List UInt8} (h : QI w0 w g s i bad acc W) (hg : g < w.heap.size) (x : Bool) : QI w0 w g s i x acc (W.setCell ⟨g, 2, none⟩ (.bool x)) :=
 ⟨h.st.set_2 x, isBuilder_set h.bu hg, below_set h.be h.st.ge, h.ke.set_ _ _⟩
theorem QI.byte {w0 w W W' : World} {g : Nat} {s : ByteArray} {i : Int} {bad : Bool} {acc : List UInt8} (h : QI w0 w g s i bad acc W) (hg : g < w.heap.size) (c : UInt8) (x : Int) (hx : x = (c.toNat : Int)) {p : Value} (hp : p = .pointer (some ⟨w.heap.size, 0, none⟩))
  (hb : Lib.BuilderAt 76 5 w.heap.size w.heap.size p (Lib.byteCells acc ++ [.int .u8 x]) W') (hB : Below w.heap.size W W') (h0 : w0.heap.size ≤ w.heap.size) : QI w0 w g s i bad (acc ++ [c]) W' := by
 subst hp; rw [byteCells_snoc acc c x hx] at hb
 exact ⟨⟨(hB.block g hg).trans h.st.1, h.st.2⟩, .inr hb, h.be.trans (hB.mono h0), ⟨Nat.le_trans h.ke.1 hB.size, fun k hk hne hr => (hB.block k hk).trans (h.ke.2 k hk hne hr)⟩⟩
theorem QI.string {w0 w W W' : World} {g : Nat} {s : ByteArray} {i : Int} {bad : Bool} {acc : List UInt8} (h : QI w0 w g s i bad acc W) (hg : g < w.heap.size) (hB : Below w.heap.size W W') (h0 : w0.heap.size ≤ w.heap.size) : IsS161 w0 W' g s i bad ∧ Below w0.heap.size w0 W' ∧ KeepBut w W' g none :=
 ⟨⟨(hB.block g hg).trans h.st.1, h.st.2⟩, h.be.trans (hB.mono h0), ⟨Nat.le_trans h.ke.1 hB.size, fun k hk hne hr => (hB.block k hk).trans (h.ke.2 k hk hne hr)⟩⟩
theorem QI.drawn {w0 w W W' : World} {g : Nat} {s : ByteArray} {i : Int} {bad : Bool} {acc : List UInt8} (h : QI w0 w g s i bad acc W) (hd : Drawn0 W W') : QI w0 w g s i bad acc W' := by
 obtain ⟨⟨n, rfl⟩⟩ := hd
 exact h.drewN n
theorem QI.cells {w0 w W : World} {g : Nat} {s : ByteArray} {i : Int} {bad : Bool} {acc : List UInt8} (h : QI w0 w g s i bad acc W) : W.cell? ⟨g, 0, none⟩ = some (.string s) ∧ W.cell? ⟨g, 1, none⟩ = some (.int .i64 i) ∧ W.cell? ⟨g, 2, none⟩ = some (.bool bad) ∧ W.frozen? ⟨g, 0, none⟩ = false ∧ W.frozen? ⟨g, 1, none⟩ = false ∧ W.frozen? ⟨g, 2, none⟩ = false :=
 ⟨cellS161_0 h.st.1, cellS161_1 h.st.1, cellS161_2 h.st.1, blk_frozen h.st.1 0, blk_frozen h.st.1 1, blk_frozen h.st.1 2⟩
theorem peek_byte {s : ByteArray} {x : Int} {b : Bool} {c : Int} (h : attr_reader_peek.f s x b = some c) : c = ((UInt8.ofNat c.toNat).toNat : Int) := by
 have hc : 0 ≤ c ∧ c ≤ 255 := by
  unfold attr_reader_peek.f at h
  split at h
  rotate_left
  · cases h; omega
  split at h
  rotate_left
  · cases h
  cases h; exact bt_range s x
 have : (UInt8.ofNat c.toNat).toNat = c.toNat := by simp; omega
 rw [this]; omega
def QPost (w0 w : World) (g : Nat) (r1 r2 : ByteArray) (r3 : Int) (r4 : Bool) (e : Ending) (w' : World) : Prop :=
  e = .returned (.string r1) ∧ IsS161 w0 w' g r2 r3 r4 ∧ Below w0.heap.size w0 w' ∧ KeepBut w w' g none
theorem QI.post {w0 w W : World} {g : Nat} {s : ByteArray} {i : Int} {bad : Bool} {acc : List UInt8} (h : QI w0 w g s i bad acc W) (r : ByteArray) : QPost w0 w g r s i bad (.returned (.string r)) W := ⟨rfl, h.st, h.be, h.ke⟩
set_option maxHeartbeats 16000000 in
set_option maxRecDepth 100000 in
theorem attr_reader_quoted.calls (k : Nat) (g : Nat) (s0_0 : ByteArray) (s0_1 : Int) (s0_2 : Bool) (r1 r2 : ByteArray) (r3 : Int) (r4 : Bool) (w0 w : World) (hI : IsS161 w0 w g s0_0 s0_1 s0_2) (hB : Below w0.heap.size w0 w) (h : attr_reader_quoted.f k s0_0 s0_1 s0_2 = some (r1, r2, r3, r4)) :
  Calls Tryz.prog 142 #[.pointer (some ⟨g, 0, none⟩)] w fun e w' => e = .returned (.string r1) ∧ IsS161 w0 w' g r2 r3 r4 ∧ Below w0.heap.size w0 w' ∧ KeepBut w w' g none := by
 show Calls Tryz.prog 142 #[.pointer (some ⟨g, 0, none⟩)] w (QPost w0 w g r1 r2 r3 r4)
 unfold attr_reader_quoted.f at h
 obtain ⟨⟨s, i, bad⟩, hn, hl⟩ := Option.bind_eq_some_iff.mp h
 clear h; have HN := Aside0.mk hn; have HL := Aside0.mk hl; clear hn hl
 have hg : g < w.heap.size := hI.lt
 have h0 : w0.heap.size ≤ w.heap.size := hB.size
 have hb0 : QI w0 w g s0_0 s0_1 s0_2 [] (w.alloc (.cells #[.pointer none, .slice none 0 0] 76)) :=
  ⟨hI.alloc _, Lib.fresh_isBuilder 76 5 w, hB.alloc h0 _, ⟨by simp, fun k hk hne hr => Lib.alloc_old w _ k hk⟩⟩
 have HQ := Aside0.mk hb0; have HG := Aside0.mk hg; have H0 := Aside0.mk h0; clear hI hB hb0 hg h0
 go_enter Tryz.func142, Tryz.ntmps142
 go_wp2_with fail
 refine (attr_reader_need.calls g s0_0 s0_1 s0_2 _ s i bad w0 _ HQ.out.st HQ.out.be HN.out).mono ?_
 rintro e w1 ⟨rfl, hi, hb, hk⟩
 have HQ1 : Aside0 (QI w0 w g s i bad [] w1) := ⟨⟨hi, isBuilder_keep HQ.out.bu hk HG.out, hb, KeepBut.trans HQ.out.ke hk (.inl rfl)⟩⟩
 clear hi hb hk HQ HN
 go_wp2_with fail
 go_loopg [4] k (fun kq v4 w' => ∃ (x : Int) (b : Bool) (acc : List UInt8), Aside0 (attr_reader_quoted.l0 kq s x b acc = some (r1, r2, r3, r4)) ∧ Aside0 (kq ≤ k) ∧ Aside0 (QI w0 w g s x b acc w'))
 case atStart => exact ⟨i, bad, [], HL, ⟨Nat.le_refl _⟩, HQ1⟩
 case round =>
  clear HL HQ1
  obtain ⟨x, b, acc, HA, HK, HQ⟩ := hrel
  cases gk with
  | zero => exact absurd HA.out (by simp [attr_reader_quoted.l0])
  | succ k1 =>
   have H := HA.out; clear HA
   simp only [attr_reader_quoted.l0] at H
   obtain ⟨HGz, hgz⟩ := HQ.out.st
   have hc0 := cellS161_0 HGz; have hc1 := cellS161_1 HGz; have hc2 := cellS161_2 HGz; have hf0 := blk_frozen HGz 0; have hf1 := blk_frozen HGz 1; have hf2 := blk_frozen HGz 2; clear HGz hgz; by_cases c1 : b = true
   ·
    subst c1; rw [if_pos rfl] at H
    simp only [Option.some.injEq, Prod.mk.injEq] at H
    obtain ⟨rfl, rfl, rfl, rfl⟩ := H
    go_wp2_with fail
    repeat (go_quiet (fail); try go_wp2_with fail)
    go_ret
    exact ((HQ.out.drewN _).bad_ HG.out true).post _
   rw [if_neg c1] at H
   obtain rfl : b = false := Bool.eq_false_iff.mpr c1
   clear c1; by_cases c2 : x < (s.size : Int); rotate_left
   ·
    rw [if_neg c2] at H
    have c2b : decide (x < (s.size : Int)) = false := decide_eq_false c2
    clear c2
    simp only [Option.some.injEq, Prod.mk.injEq] at H
    obtain ⟨rfl, rfl, rfl, rfl⟩ := H
    go_wp2_with fail
    repeat (go_quiet (fail); try go_wp2_with fail)
    go_ret
    exact ((HQ.out.drewN _).bad_ HG.out true).post _
   rw [if_pos c2] at H
   have c2b : decide (x < (s.size : Int)) = true := decide_eq_true c2
   clear c2
   obtain ⟨c, A1, H⟩ := Option.bind_eq_some_iff.mp H
   have A1 := Aside0.mk A1
   go_wp2_with fail
   repeat (go_quiet (fail); try go_wp2_with fail)
   refine (attr_reader_peek.calls g s x false c w0 _ (HQ.out.drewN _).st (HQ.out.drewN _).be A1.out).mono ?_
   rintro e w2 ⟨rfl, hd⟩
   have HQ2 := Aside0.mk ((HQ.out.drewN _).drawn hd); clear hd hc0 hc1 hc2 hf0 hf1 hf2 HQ
   obtain ⟨hc0, hc1, hc2, hf0, hf1, hf2⟩ := HQ2.out.cells
   by_cases d1 : c = 34
   ·
    subst d1; rw [if_pos rfl] at H
    simp only [Option.some.injEq, Prod.mk.injEq] at H
    obtain ⟨rfl, rfl, rfl, rfl⟩ := H
    go_wp2_with fail
    have HQ3 := Aside0.mk (HQ2.out.at_ HG.out (wrap64 (x + 1)))
    refine (Tryz.Builder_String_any w.heap.size w.heap.size acc _ HQ3.out.bu HQ3.out.ke.1).mono ?_
    rintro e w4 ⟨rfl, hb⟩
    have HF := Aside0.mk (HQ3.out.string HG.out hb H0.out); clear hb
    go_wp2_with fail
    go_ret
    exact ⟨rfl, HF.out.1, HF.out.2.1, HF.out.2.2⟩
   rw [if_neg d1] at H
   have d1b : (c == 34) = false := beq_eq_false_iff_ne.mpr d1
   by_cases d2 : c = 10
   ·
    subst d2; rw [if_pos rfl] at H
    simp only [Option.some.injEq, Prod.mk.injEq] at H
    obtain ⟨rfl, rfl, rfl, rfl⟩ := H
    clear d1
    go_wp2_with fail
    go_ret
    exact (HQ2.out.bad_ HG.out true).post _
   rw [if_neg d2] at H
   have d2b : (c == 10) = false := beq_eq_false_iff_ne.mpr d2
   by_cases d3 : c = 92; rotate_left
   ·
    rw [if_neg d3] at H
    have d3b : (c == 92) = false := beq_eq_false_iff_ne.mpr d3
    by_cases hl : acc.length < 140737488355328; rotate_left
    · rw [if_neg hl] at H; cases H
    rw [if_pos hl] at H; have HL := Aside0.mk hl; have H' := Aside0.mk H; have HC := Aside0.mk (peek_byte A1.out); clear hl H d1 d2 d3
    go_wp2_with fail
    refine (Tryz.Builder_WriteByte w.heap.size w.heap.size (Lib.byteCells acc) c _ HQ2.out.bu (by rw [byteCells_len]; have := HL.out; omega) HQ2.out.ke.1).mono ?_
    rintro e w5 ⟨rfl, hb, hB5⟩
    have HQ5 := Aside0.mk (HQ2.out.byte HG.out (UInt8.ofNat c.toNat) c HC.out rfl hb hB5 H0.out); clear hb hB5 hc0 hc1 hc2 hf0 hf1 hf2 HQ2
    obtain ⟨hc0, hc1, hc2, hf0, hf1, hf2⟩ := HQ5.out.cells
    go_wp2_with fail
    go_roundg k1
    case measure => have := HK.out; omega
    case rel => exact ⟨_, _, _, H', ⟨by have := HK.out; omega⟩, ⟨HQ5.out.at_ HG.out _⟩⟩
   subst d3; rw [if_pos rfl] at H; clear d1 d2
   obtain ⟨c', A2, H⟩ := Option.bind_eq_some_iff.mp H
   have A2 := Aside0.mk A2
   go_wp2_with fail
   have HQ3 := Aside0.mk (HQ2.out.at_ HG.out (wrap64 (x + 1)))
   refine (attr_reader_peek.calls g s (wrap64 (x + 1)) false c' w0 _ HQ3.out.st HQ3.out.be A2.out).mono ?_
   rintro e w3 ⟨rfl, hd⟩
   have HQ4 := Aside0.mk (HQ3.out.drawn hd); clear hd hc0 hc1 hc2 hf0 hf1 hf2 HQ2 HQ3
   obtain ⟨hc0, hc1, hc2, hf0, hf1, hf2⟩ := HQ4.out.cells
   obtain ⟨y, hy⟩ : ∃ y, wrap64 (x + 1) = y := ⟨_, rfl⟩
   rw [hy] at HQ4 hc1 H
   clear hy; by_cases e1 : y < (s.size : Int); rotate_left
   ·
    rw [if_neg e1] at H
    have e1b : decide (y < (s.size : Int)) = false := decide_eq_false e1
    have e1c : decide ((s.size : Int) ≤ y) = true := decide_eq_true (by omega)
    simp only [Option.some.injEq, Prod.mk.injEq] at H
    obtain ⟨rfl, rfl, rfl, rfl⟩ := H
    clear e1
    go_wp2_with fail
    repeat (go_quiet (fail); try go_wp2_with fail)
    go_ret
    exact ((HQ4.out.drewN _).bad_ HG.out true).post _
   rw [if_pos e1] at H
   have e1b : decide (y < (s.size : Int)) = true := decide_eq_true e1
   have e1c : decide ((s.size : Int) ≤ y) = false := decide_eq_false (by omega)
   by_cases f1 : c' = 110
   ·
    subst f1; rw [if_pos rfl] at H; by_cases hl : acc.length < 140737488355328; rotate_left
    · rw [if_neg hl] at H; cases H
    rw [if_pos hl] at H; have HL := Aside0.mk hl; have H' := Aside0.mk H; clear hl H e1
    go_wp2_with fail
    repeat (go_quiet (fail); try go_wp2_with fail)
    refine (Tryz.Builder_WriteByte w.heap.size w.heap.size (Lib.byteCells acc) 10 _ (HQ4.out.drewN _).bu (by rw [byteCells_len]; have := HL.out; omega) (HQ4.out.drewN _).ke.1).mono ?_
    rintro e w5 ⟨rfl, hb, hB5⟩
    have HQ5 := Aside0.mk ((HQ4.out.drewN _).byte HG.out 10 10 rfl rfl hb hB5 H0.out); clear hb hB5 hc0 hc1 hc2 hf0 hf1 hf2 HQ4
    obtain ⟨hc0, hc1, hc2, hf0, hf1, hf2⟩ := HQ5.out.cells
    go_wp2_with fail
    go_roundg k1
    case measure => have := HK.out; omega
    case rel => exact ⟨_, _, _, H', ⟨by have := HK.out; omega⟩, ⟨HQ5.out.at_ HG.out _⟩⟩
   rw [if_neg f1] at H
   have f1b : (c' == 110) = false := beq_eq_false_iff_ne.mpr f1
   by_cases f2 : c' = 34
   ·
    subst f2; rw [if_pos rfl] at H; by_cases hl : acc.length < 140737488355328; rotate_left
    · rw [if_neg hl] at H; cases H
    rw [if_pos hl] at H; have HL := Aside0.mk hl; have H' := Aside0.mk H; clear hl H e1 f1
    go_wp2_with fail
    repeat (go_quiet (fail); try go_wp2_with fail)
    refine (Tryz.Builder_WriteByte w.heap.size w.heap.size (Lib.byteCells acc) 34 _ (HQ4.out.drewN _).bu (by rw [byteCells_len]; have := HL.out; omega) (HQ4.out.drewN _).ke.1).mono ?_
    rintro e w5 ⟨rfl, hb, hB5⟩
    have HQ5 := Aside0.mk ((HQ4.out.drewN _).byte HG.out 34 34 rfl rfl hb hB5 H0.out); clear hb hB5 hc0 hc1 hc2 hf0 hf1 hf2 HQ4
    obtain ⟨hc0, hc1, hc2, hf0, hf1, hf2⟩ := HQ5.out.cells
    go_wp2_with fail
    go_roundg k1
    case measure => have := HK.out; omega
    case rel => exact ⟨_, _, _, H', ⟨by have := HK.out; omega⟩, ⟨HQ5.out.at_ HG.out _⟩⟩
   rw [if_neg f2] at H
   have f2b : (c' == 34) = false := beq_eq_false_iff_ne.mpr f2
   have f2c : (c' != 34) = true := bne_iff_ne.mpr f2
   by_cases f3 : c' = 92; rotate_left
   ·
    rw [if_neg f3] at H
    have f3c : (c' != 92) = true := bne_iff_ne.mpr f3
    simp only [Option.some.injEq, Prod.mk.injEq] at H
    obtain ⟨rfl, rfl, rfl, rfl⟩ := H
    clear e1 f1 f2 f3
    go_wp2_with fail
    repeat (go_quiet (fail); try go_wp2_with fail)
    go_ret
    exact ((HQ4.out.drewN _).bad_ HG.out true).post _
   subst f3; rw [if_pos rfl] at H; by_cases hl : acc.length < 140737488355328; rotate_left
   · rw [if_neg hl] at H; cases H
   rw [if_pos hl] at H; have HL := Aside0.mk hl; have H' := Aside0.mk H; clear hl H e1 f1 f2
   go_wp2_with fail
   repeat (go_quiet (fail); try go_wp2_with fail)
   refine (Tryz.Builder_WriteByte w.heap.size w.heap.size (Lib.byteCells acc) 92 _ (HQ4.out.drewN _).bu (by rw [byteCells_len]; have := HL.out; omega) (HQ4.out.drewN _).ke.1).mono ?_
   rintro e w5 ⟨rfl, hb, hB5⟩
   have HQ5 := Aside0.mk ((HQ4.out.drewN _).byte HG.out 92 92 rfl rfl hb hB5 H0.out); clear hb hB5 hc0 hc1 hc2 hf0 hf1 hf2 HQ4
   obtain ⟨hc0, hc1, hc2, hf0, hf1, hf2⟩ := HQ5.out.cells
   go_wp2_with fail
   go_roundg k1
   case measure => have := HK.out; omega
   case rel => exact ⟨_, _, _, H', ⟨by have := HK.out; omega⟩, ⟨HQ5.out.at_ HG.out _⟩⟩
end Go.Proofs.YtkedidjjhhjdbaaGreatDoor.Pr
end
