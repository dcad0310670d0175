import Derived.Test.YtkedidjjhhjdbaaGreatDoorBc0
import Derived.Test.YtkedidjjhhjdbaaGreatDoorBc11
import Derived.Test.YtkedidjjhhjdbaaGreatDoorBc15
import Derived.Test.YtkedidjjhhjdbaaGreatDoorBc18
set_option linter.unusedVariables false
set_option linter.unusedSimpArgs false
namespace Go.Proofs.YtkedidjjhhjdbaaGreatDoor.Pr
open Go.RowKit Go.Proofs.YtkedidjjhhjdbaaGreatDoorW.PrintWords Go.Proofs.YtkedidjjhhjdbaaGreatDoorW.PrintLast Go.Proofs.YtkedidjjhhjdbaaGreatDoorW.PrintMore
def zr : Array Value := #[.bool false, .int .i64 0, .string ⟨#[]⟩, .slice none 0 0, .slice none 0 0]
theorem restW_le (s : ByteArray) : (restW s).size ≤ s.size := by
 unfold restW Lib.cut
 split
 rotate_left
 · exact Nat.zero_le _
 show ((s.data.toList.drop _).toArray).size ≤ s.data.size
 simp
structure RuI (w : World) (cs : Array Value) (s : ByteArray) (W : World) : Prop where
  b2 : W.heap[w.heap.size]? = some (.cells zr 46 (0, 0))
  b4 : W.heap[w.heap.size + 1]? = some (.cells cs 46 (0, 0))
  b5 : TxBox (w.heap.size + 1 + 1) s W
  be : Below w.heap.size w W
theorem RuI.below {w W W' : World} {cs : Array Value} {s : ByteArray} (h : RuI w cs s W) (hb : Below W.heap.size W W') : RuI w cs s W' := ⟨blk_below h.b2 hb, blk_below h.b4 hb, blk_below h.b5 hb, h.be.trans (hb.mono h.be.size)⟩
theorem RuI.drewN {w W : World} {cs : Array Value} {s : ByteArray} (h : RuI w cs s W) (n : Nat) : RuI w cs s (W.drewN n) := ⟨h.b2, h.b4, h.b5, pw_below_drewN h.be n⟩
theorem RuI.drew {w W : World} {cs : Array Value} {s : ByteArray} (h : RuI w cs s W) : RuI w cs s W.drew := h.drewN 1
theorem RuI.cell {w W : World} {cs : Array Value} {s : ByteArray} (h : RuI w cs s W) (i : Nat) (v : Value) (hv : cs[i]? = some v) : W.cell? ⟨w.heap.size + 1, i, none⟩ = some v := (blk_cell h.b4 i).trans hv
theorem RuI.rest {w W : World} {cs : Array Value} {s : ByteArray} (h : RuI w cs s W) : W.cell? ⟨w.heap.size + 1 + 1, 0, none⟩ = some (.string s) := blk_cell h.b5 0
theorem RuI.cellz {w W : World} {cs : Array Value} {s : ByteArray} (h : RuI w cs s W) (i : Nat) (v : Value) (hv : zr[i]? = some v) : W.cell? ⟨w.heap.size, i, none⟩ = some v := (blk_cell h.b2 i).trans hv
theorem RuI.frozz {w W : World} {cs : Array Value} {s : ByteArray} (h : RuI w cs s W) (i : Nat) : W.frozen? ⟨w.heap.size, i, none⟩ = false := blk_frozen h.b2 i
theorem RuI.froz5 {w W : World} {cs : Array Value} {s : ByteArray} (h : RuI w cs s W) : W.frozen? ⟨w.heap.size + 1 + 1, 0, none⟩ = false := blk_frozen h.b5 0
theorem RuI.set4 {w W : World} {cs cs' : Array Value} {s : ByteArray} (h : RuI w cs s W) (i : Nat) (v : Value) (hc : cs.setIfInBounds i v = cs') : RuI w cs' s (W.setCell ⟨w.heap.size + 1, i, none⟩ v) :=
 ⟨blk_far h.b2 (by simp) _, by rw [← hc]; exact blk_set h.b4 i v, blk_far h.b5 (by simp) _, h.be.setCell (by simp) _⟩
theorem RuI.set5 {w W : World} {cs : Array Value} {s : ByteArray} (h : RuI w cs s W) (t : ByteArray) : RuI w cs t (W.setCell ⟨w.heap.size + 1 + 1, 0, none⟩ (.string t)) :=
 ⟨blk_far h.b2 (by simp; omega) _, blk_far h.b4 (by simp) _, h.b5.set t, h.be.setCell (by simp; omega) _⟩
theorem RuI.new (w : World) (s : ByteArray) : RuI w zr s (((w.alloc (.cells zr 46)).alloc (.cells zr 46)).alloc (.cells #[.string s] 9)) := by
 have h1 : (w.alloc (.cells zr 46)).heap.size = w.heap.size + 1 := by simp
 have h2 : ((w.alloc (.cells zr 46)).alloc (.cells zr 46)).heap.size = w.heap.size + 1 + 1 := by simp
 have a := blk_new w (.cells zr 46); have b := blk_new (w.alloc (.cells zr 46)) (.cells zr 46); have c := blk_new ((w.alloc (.cells zr 46)).alloc (.cells zr 46)) (.cells #[.string s] 9); rw [h1] at b; rw [h2] at c
 exact ⟨blk_alloc (blk_alloc a _) _, blk_alloc b _, c, (((Below.refl _ _).alloc (Nat.le_refl _) _).alloc (by simp) _).alloc (by simp; omega) _⟩
def kinds4 : List ByteArray := [⟨#[97, 110, 121]⟩, ⟨#[109, 101, 116, 114, 105, 99, 115]⟩, ⟨#[108, 111, 103, 115]⟩, ⟨#[116, 114, 97, 99, 101, 115]⟩]
theorem C_of_blk {w : World} {g : Nat} {xs : List ByteArray} (h : w.heap[g]? = some (.cells (xs.map Value.string).toArray 9 (0, 0))) (hm : xs.length ≤ 9223372036854775807) : Kd.C Kd.string w (some ⟨g, 0, none⟩) xs.length xs := by
 refine flatStr.C' hm (fun _ => ⟨_, rfl, fun j u hu => ?_⟩)
 rw [strs_flat] at hu; have hc := blk_cell h j; rw [List.getElem?_toArray, hu] at hc; by_cases hj : j = 0
 · subst hj; exact hc
 simpa [Addr.add, hj] using hc
theorem RuI.froz {w W : World} {cs : Array Value} {s : ByteArray} (h : RuI w cs s W) (i : Nat) : W.frozen? ⟨w.heap.size + 1, i, none⟩ = false := blk_frozen h.b4 i
def isDeny (s : ByteArray) : Bool := s.toList == ([100, 101, 110, 121] : List UInt8)
theorem RuI.done {w W : World} {d : Bool} {kd : Int} {tn : ByteArray} {v3 v4 : Value} {s : ByteArray} {sc : List S33} {hd : List ByteArray} (h : RuI w #[.bool d, .int .i64 kd, .string tn, v3, v4] s W)
  (h3 : Kd.R k33 33 W w.heap.size (fun _ => True) v3 sc) (h4 : Kd.R Kd.string 9 W w.heap.size (fun _ => True) v4 hd) :
  (((((W.setCell ⟨w.heap.size, 0, none⟩ (.bool d)).setCell ⟨w.heap.size, 1, none⟩ (.int .i64 kd)).setCell ⟨w.heap.size, 2, none⟩ (.string tn)).setCell ⟨w.heap.size, 3, none⟩ v3).setCell ⟨w.heap.size, 4, none⟩ v4).heap[w.heap.size]? = some (.cells #[.bool d, .int .i64 kd, .string tn, v3, v4] 46 (0, 0)) ∧
  Kd.R k33 33 (((((W.setCell ⟨w.heap.size, 0, none⟩ (.bool d)).setCell ⟨w.heap.size, 1, none⟩ (.int .i64 kd)).setCell ⟨w.heap.size, 2, none⟩ (.string tn)).setCell ⟨w.heap.size, 3, none⟩ v3).setCell ⟨w.heap.size, 4, none⟩ v4) w.heap.size (fun _ => True) v3 sc ∧
  Kd.R Kd.string 9 (((((W.setCell ⟨w.heap.size, 0, none⟩ (.bool d)).setCell ⟨w.heap.size, 1, none⟩ (.int .i64 kd)).setCell ⟨w.heap.size, 2, none⟩ (.string tn)).setCell ⟨w.heap.size, 3, none⟩ v3).setCell ⟨w.heap.size, 4, none⟩ v4) w.heap.size (fun _ => True) v4 hd ∧
  Below w.heap.size w (((((W.setCell ⟨w.heap.size, 0, none⟩ (.bool d)).setCell ⟨w.heap.size, 1, none⟩ (.int .i64 kd)).setCell ⟨w.heap.size, 2, none⟩ (.string tn)).setCell ⟨w.heap.size, 3, none⟩ v3).setCell ⟨w.heap.size, 4, none⟩ v4) := by
 have b0 := h.b2; have b1 := blk_set b0 0 (.bool d); have b2 := blk_set b1 1 (.int .i64 kd); have b3 := blk_set b2 2 (.string tn); have b4 := blk_set b3 3 v3; have b5 := blk_set b4 4 v4
 refine ⟨b5, ?_, ?_, ((((h.be.setCell (Nat.le_refl _) _).setCell (Nat.le_refl _) _).setCell (Nat.le_refl _) _).setCell (Nat.le_refl _) _).setCell (Nat.le_refl _) _⟩
 ·
  have q := Kd.R_types h3 b0 (by decide)
  exact Kd.R_mono (Kd.R_far (Kd.R_far (Kd.R_far (Kd.R_far (Kd.R_far q (fun _ hk => hk.2) _) (fun _ hk => hk.2) _) (fun _ hk => hk.2) _) (fun _ hk => hk.2) _) (fun _ hk => hk.2) _) (fun _ _ => trivial)
 have q := Kd.R_types h4 b0 (by decide)
 exact Kd.R_mono (Kd.R_far (Kd.R_far (Kd.R_far (Kd.R_far (Kd.R_far q (fun _ hk => hk.2) _) (fun _ hk => hk.2) _) (fun _ hk => hk.2) _) (fun _ hk => hk.2) _) (fun _ hk => hk.2) _) (fun _ _ => trivial)
theorem RuI.row3 {w W : World} {cs : Array Value} {s : ByteArray} {v : Value} {sc : List S33} (h : RuI w cs s W) (h3 : Kd.R k33 33 W w.heap.size (fun _ => True) v sc) (i : Nat) (u : Value) : Kd.R k33 33 (W.setCell ⟨w.heap.size + 1, i, none⟩ u) w.heap.size (fun _ => True) v sc :=
 Kd.R_mono (Kd.R_far (Kd.R_types h3 h.b4 (by decide)) (fun _ hk => hk.2) _) (fun _ _ => trivial)
theorem RuI.row4 {w W : World} {cs : Array Value} {s : ByteArray} {v : Value} {sc : List ByteArray} (h : RuI w cs s W) (h3 : Kd.R Kd.string 9 W w.heap.size (fun _ => True) v sc) (i : Nat) (u : Value) : Kd.R Kd.string 9 (W.setCell ⟨w.heap.size + 1, i, none⟩ u) w.heap.size (fun _ => True) v sc :=
 Kd.R_mono (Kd.R_far (Kd.R_types h3 h.b4 (by decide)) (fun _ hk => hk.2) _) (fun _ _ => trivial)
def wordsF : List ByteArray → Option Bool
  | [] => some true
  | x :: r => (policy_word.f x).bind fun b => if b = true then wordsF r else some false
abbrev RRes := Bool × Int × ByteArray × List S33 × List ByteArray × Bool
def policy_rule.fin (k : Nat) (s : ByteArray) (d : Bool) (kd : Int) (tn : ByteArray) (sc : List S33) (hd : List ByteArray) : Option RRes :=
  (wordsF hd).bind fun ok => if ok = true then (if kd ≥ 0 then (if tn.toList = ([] : List UInt8) then some (d, kd, tn, sc, hd, false) else (policy_line.f k d kd tn sc hd).bind fun t => some (d, kd, tn, sc, hd, t.toList == s.toList)) else some (d, kd, tn, sc, hd, false)) else some (d, kd, tn, sc, hd, false)
def policy_rule.hide (k : Nat) (s : ByteArray) (d : Bool) (kd : Int) (tn : ByteArray) (sc : List S33) (rs : ByteArray) : Option RRes :=
  (strings_CutPrefix.f rs (⟨#[104, 105, 100, 101, 32]⟩ : ByteArray)).bind fun c => if c.2 = true then (strings_Split.f c.1 (⟨#[44, 32]⟩ : ByteArray)).bind fun hd => policy_rule.fin k s d kd tn sc hd else policy_rule.fin k s d kd tn sc []
def policy_rule.wher (k : Nat) (s : ByteArray) (d : Bool) (kd : Int) (tn : ByteArray) (rs : ByteArray) : Option RRes :=
  (strings_CutPrefix.f rs (⟨#[119, 104, 101, 114, 101, 32]⟩ : ByteArray)).bind fun c => if c.2 = true then (policy_braces.f k c.1).bind fun n =>
      if n < 0 then some (d, kd, tn, [], [], false) else if n ≤ (c.1.size : Int) then
        (strings_TrimPrefix.f (c.1.extract n.toNat c.1.size) (⟨#[32]⟩ : ByteArray)).bind fun s5 => (policy_scope.f k (c.1.extract 0 n.toNat)).bind fun sc =>
          if sc.2 = true then policy_rule.hide k s d kd tn sc.1 s5 else some (d, kd, tn, [], [], false)
      else none
    else policy_rule.hide k s d kd tn [] rs
def policy_rule.f (k : Nat) (s : ByteArray) : Option RRes :=
  if s.size < 4294967281 then (slices_Index_string_string.f k kinds4 (nextW (restW s))).bind fun kd => policy_rule.wher k s (isDeny (nextW s)) kd (nextW (restW (restW (restW s)))) (restW (restW (restW (restW s)))) else none
set_option maxHeartbeats 8000000 in
set_option maxRecDepth 100000 in
theorem policy_rule.calls (k : Nat) (s : ByteArray) (r1 : Bool) (r2 : Int) (r3 : ByteArray) (r4 : List S33) (r5 : List ByteArray) (r6 : Bool) (w : World) (h : policy_rule.f k s = some (r1, r2, r3, r4, r5, r6))
  (he_ : EnvW w := by repeat (first | with_reducible assumption | with_reducible exact env_of (by with_reducible assumption) (by with_reducible assumption) | with_reducible exact env_out (by with_reducible assumption) | with_reducible apply env_alloc | with_reducible apply env_drewN | with_reducible apply env_drew | with_reducible refine env_set ?_ (by with_reducible assumption) (by with_reducible assumption))) :
  Calls Tryz.prog 42 #[.string s] w fun e w' => ∃ v0_ v1_ : Value, e = .returned (.tuple #[.agg #[.bool r1, .int .i64 r2, .string r3, v0_, v1_], .bool r6]) ∧ Kd.R k33 33 w' w.heap.size (fun _ => True) v0_ r4 ∧ Kd.R Kd.string 9 w' w.heap.size (fun _ => True) v1_ r5 ∧ Below w.heap.size w w' := by
 unfold policy_rule.f at h
 by_cases hs : s.size < 4294967281; rotate_left
 · rw [if_neg hs] at h; cases h
 rw [if_pos hs] at h
 obtain ⟨kd, hk, h⟩ := Option.bind_eq_some_iff.mp h
 have hu46 := Tryz.underlying46; have HE := Aside0.mk he_; have HS := Aside0.mk hs; have HS1 := Aside0.mk (Nat.lt_of_le_of_lt (restW_le s) hs); have HS2 := Aside0.mk (Nat.lt_of_le_of_lt (restW_le (restW s)) HS1.out); have HS3 := Aside0.mk (Nat.lt_of_le_of_lt (restW_le (restW (restW s))) HS2.out); have HK := Aside0.mk hk; have HH := Aside0.mk h; clear he_ hs hk h
 go_enter Tryz.func42, Tryz.ntmps42
 go_wp2_with fail
 have HI : Aside0 (RuI w #[.bool false, .int .i64 0, .string ⟨#[]⟩, .slice none 0 0, .slice none 0 0] s (((w.alloc (.cells #[.bool false, .int .i64 0, .string ⟨#[]⟩, .slice none 0 0, .slice none 0 0] 46)).alloc (.cells #[.bool false, .int .i64 0, .string ⟨#[]⟩, .slice none 0 0, .slice none 0 0] 46)).alloc (.cells #[.string s] 9))) := ⟨RuI.new w s⟩
 generalize (((w.alloc (.cells #[.bool false, .int .i64 0, .string ⟨#[]⟩, .slice none 0 0, .slice none 0 0] 46)).alloc (.cells #[.bool false, .int .i64 0, .string ⟨#[]⟩, .slice none 0 0, .slice none 0 0] 46)).alloc (.cells #[.string s] 9)) = W0 at HI ⊢
 refine (next_walk (w.heap.size + 1 + 1) s W0 HI.out.b5 HS.out (env_below HE.out HI.out.be)).mono ?_
 rintro e w1 ⟨rfl, n1, rfl⟩
 replace HI := Aside0.mk ((HI.out.drewN n1).set5 (restW s))
 generalize (W0.drewN n1).setCell ⟨w.heap.size + 1 + 1, 0, none⟩ (.string (restW s)) = W1 at HI ⊢
 have hx := HI.out.cell 0 (.bool false) rfl; have hf := HI.out.froz 0
 go_upto_region 5 with (fail)
 replace HI := Aside0.mk (HI.out.set4 0 (.bool ((nextW s).toList == ([100, 101, 110, 121] : List UInt8))) (cs' := #[.bool (isDeny (nextW s)), .int .i64 0, .string ⟨#[]⟩, .slice none 0 0, .slice none 0 0]) rfl)
 generalize W1.setCell ⟨w.heap.size + 1, 0, none⟩ (.bool ((nextW s).toList == ([100, 101, 110, 121] : List UInt8))) = W2 at HI ⊢
 clear hx hf
 go_wp2_with fail
 have HN0 := Aside0.mk (blk_lt HI.out.b5); have HB := Aside0.mk (blk_new W2 (.cells #[.string ⟨#[97, 110, 121]⟩, .string ⟨#[109, 101, 116, 114, 105, 99, 115]⟩, .string ⟨#[108, 111, 103, 115]⟩, .string ⟨#[116, 114, 97, 99, 101, 115]⟩] 9))
 replace HI := Aside0.mk (HI.out.below (below_alloc (Below.refl _ _) (.cells #[.string ⟨#[97, 110, 121]⟩, .string ⟨#[109, 101, 116, 114, 105, 99, 115]⟩, .string ⟨#[108, 111, 103, 115]⟩, .string ⟨#[116, 114, 97, 99, 101, 115]⟩] 9)))
 have HN : Aside0 (W2.heap.size ≠ w.heap.size + 1 + 1) := ⟨fun e => by have := HN0.out; omega⟩
 refine (next_walk (w.heap.size + 1 + 1) (restW s) _ HI.out.b5 HS1.out (env_below HE.out HI.out.be)).mono ?_
 rintro e w3 ⟨rfl, n3, rfl⟩
 replace HI := Aside0.mk ((HI.out.drewN n3).set5 (restW (restW s)))
 replace HB := Aside0.mk (blk_far (blk_drewN HB.out n3) (p := ⟨w.heap.size + 1 + 1, 0, none⟩) HN.out (.string (restW (restW s))))
 go_wp2_with fail
 refine (slices_Index_string_string.calls k (some ⟨W2.heap.size, 0, none⟩) 4 kinds4 (nextW (restW s)) kd _ (C_of_blk (xs := kinds4) HB.out (by decide)) (by decide) HK.out).mono ?_
 rintro e w4 ⟨rfl, ⟨nd4, rfl⟩⟩
 replace HI := Aside0.mk (HI.out.drewN nd4)
 clear HB HN HN0 HK
 obtain ⟨W4, hW4⟩ : ∃ W, W = ((((W2.alloc (.cells #[.string ⟨#[97, 110, 121]⟩, .string ⟨#[109, 101, 116, 114, 105, 99, 115]⟩, .string ⟨#[108, 111, 103, 115]⟩, .string ⟨#[116, 114, 97, 99, 101, 115]⟩] 9)).drewN n3).setCell ⟨w.heap.size + 1 + 1, 0, none⟩ (.string (restW (restW s)))).drewN nd4) := ⟨_, rfl⟩
 rw [← hW4] at HI ⊢
 clear hW4; have hx := HI.out.cell 1 (.int .i64 0) rfl; have hf := HI.out.froz 1
 go_upto_region 6 with (fail)
 replace HI := Aside0.mk (HI.out.set4 1 (.int .i64 kd) (cs' := #[.bool (isDeny (nextW s)), .int .i64 kd, .string ⟨#[]⟩, .slice none 0 0, .slice none 0 0]) rfl)
 generalize W4.setCell ⟨w.heap.size + 1, 1, none⟩ (.int .i64 kd) = W5 at HI ⊢
 clear hx hf
 go_wp2_with fail
 refine (next_walk (w.heap.size + 1 + 1) (restW (restW s)) _ HI.out.b5 HS2.out (env_below HE.out HI.out.be)).mono ?_
 rintro e w5 ⟨rfl, n5, rfl⟩
 replace HI := Aside0.mk ((HI.out.drewN n5).set5 (restW (restW (restW s))))
 generalize (W5.drewN n5).setCell ⟨w.heap.size + 1 + 1, 0, none⟩ (.string (restW (restW (restW s)))) = W6 at HI ⊢
 go_wp2_with fail
 refine (next_walk (w.heap.size + 1 + 1) (restW (restW (restW s))) _ HI.out.b5 HS3.out (env_below HE.out HI.out.be)).mono ?_
 rintro e w6 ⟨rfl, n6, rfl⟩
 replace HI := Aside0.mk ((HI.out.drewN n6).set5 (restW (restW (restW (restW s)))))
 generalize (W6.drewN n6).setCell ⟨w.heap.size + 1 + 1, 0, none⟩ (.string (restW (restW (restW (restW s))))) = W7 at HI ⊢
 have hx := HI.out.cell 2 (.string ⟨#[]⟩) rfl; have hf := HI.out.froz 2
 go_upto_region 8 with (fail)
 replace HI := Aside0.mk (HI.out.set4 2 (.string (nextW (restW (restW (restW s))))) (cs' := #[.bool (isDeny (nextW s)), .int .i64 kd, .string (nextW (restW (restW (restW s)))), .slice none 0 0, .slice none 0 0]) rfl)
 generalize W7.setCell ⟨w.heap.size + 1, 2, none⟩ (.string (nextW (restW (restW (restW s))))) = W8 at HI ⊢
 clear hx hf HS HS1 HS2 HS3
 generalize nextW (restW (restW (restW s))) = tn at HI HH
 generalize restW (restW (restW (restW s))) = rs at HI HH
 generalize isDeny (nextW s) = d at HI HH
 have hxr := HI.out.rest; have h := HH.out; clear HH
 unfold policy_rule.wher at h
 obtain ⟨⟨tail, ok⟩, hc, h⟩ := Option.bind_eq_some_iff.mp h
 have HC := Aside0.mk hc; have HH := Aside0.mk h; clear hc h
 go_wp2_with fail
 refine (strings_CutPrefix.calls rs _ tail ok _ HC.out).mono ?_
 rintro e w7 ⟨rfl, ⟨nd7, rfl⟩⟩
 replace HI := Aside0.mk (HI.out.drewN nd7)
 generalize W8.drewN nd7 = W9 at HI ⊢
 clear HC hxr
 go_upto_if 38 with (fail)
 go_cut [9, 10, 11, 12] (fun v9 v10 v11 v12 wc => ∃ (sc : List S33) (rs : ByteArray) (v3 : Value), Aside0 (policy_rule.hide k s d kd tn sc rs = some (r1, r2, r3, r4, r5, r6)) ∧ Aside0 (RuI w #[.bool d, .int .i64 kd, .string tn, v3, .slice none 0 0] rs wc) ∧ Aside0 (Kd.R k33 33 wc w.heap.size (fun _ => True) v3 sc))
 case first =>
  have h := HH.out; clear HH; by_cases c1 : ok = true; rotate_left
  ·
   obtain rfl : ok = false := Bool.eq_false_iff.mpr c1
   rw [if_neg c1] at h; clear c1; go_wp2
   go_meet
   case rel => exact ⟨[], rs, .slice none 0 0, ⟨h⟩, HI, ⟨Kd.R_nil _ _ _ _ _⟩⟩
  subst c1; rw [if_pos rfl] at h
  obtain ⟨n, hn, h⟩ := Option.bind_eq_some_iff.mp h
  have HN := Aside0.mk hn; clear hn
  go_wp2_with fail
  refine (policy_braces.calls k tail n _ HN.out).mono ?_
  rintro e w8 ⟨rfl, ⟨nd8, rfl⟩⟩
  replace HI := Aside0.mk (HI.out.drewN nd8)
  generalize W9.drewN nd8 = W10 at HI ⊢
  clear HN; by_cases c2 : n < 0
  ·
   rw [if_pos c2] at h
   simp only [Option.some.injEq, Prod.mk.injEq] at h
   obtain ⟨rfl, rfl, rfl, rfl, rfl, rfl⟩ := h
   have c2b0 : decide (n < 0) = true := decide_eq_true c2
   have hx0 := HI.out.cell 0 (.bool d) rfl; have hx1 := HI.out.cell 1 (.int .i64 kd) rfl; have hx2 := HI.out.cell 2 (.string tn) rfl; have hx3 := HI.out.cell 3 (.slice none 0 0) rfl; have hx4 := HI.out.cell 4 (.slice none 0 0) rfl; have hy0 := HI.out.cellz 0 (.bool false) rfl; have hy1 := HI.out.cellz 1 (.int .i64 0) rfl; have hy2 := HI.out.cellz 2 (.string ⟨#[]⟩) rfl; have hy3 := HI.out.cellz 3 (.slice none 0 0) rfl; have hy4 := HI.out.cellz 4 (.slice none 0 0) rfl; have hz0 := HI.out.frozz 0; have hz1 := HI.out.frozz 1; have hz2 := HI.out.frozz 2; have hz3 := HI.out.frozz 3
   have hz4 := HI.out.frozz 4; clear c2; go_wp2; have hdone := HI.out.done (Kd.R_nil k33 33 _ _ _) (Kd.R_nil Kd.string 9 _ _ _)
   refine bodyPost_ret (results_ct (fn := Tryz.f42) rfl _ _ w.heap.size 46 _ (0, 0) _ rfl hdone.1 Tryz.underlying46 rfl (by kernel_rfl)) rfl ?_
   exact ⟨_, _, rfl, hdone.2.1, hdone.2.2.1, hdone.2.2.2⟩
  rw [if_neg c2] at h; by_cases c3 : n ≤ (tail.size : Int); rotate_left
  · rw [if_neg c3] at h; cases h
  rw [if_pos c3] at h
  obtain ⟨s5, h5, h⟩ := Option.bind_eq_some_iff.mp h
  obtain ⟨⟨sc, ok2⟩, hsc, h⟩ := Option.bind_eq_some_iff.mp h
  have H5 := Aside0.mk h5; have HSC := Aside0.mk hsc; have HH := Aside0.mk h; clear h5 hsc h
  have c2b0 : decide (n < 0) = false := decide_eq_false c2
  have p1 := eq_true (Int.not_lt.1 c2)
  have p2 : decide (0 ≤ n) = true := decide_eq_true (Int.not_lt.1 c2)
  have q1 := eq_true c3
  have q2 : decide (n ≤ (tail.size : Int)) = true := decide_eq_true c3
  have hxr := HI.out.rest; have hfr := HI.out.froz5; clear c2 c3
  go_wp2_with fail
  refine (strings_TrimPrefix.calls _ _ s5 _ H5.out).mono ?_
  rintro e w9 ⟨rfl, ⟨nd9, rfl⟩⟩
  replace HI := Aside0.mk (HI.out.drewN nd9)
  generalize W10.drewN nd9 = W11 at HI ⊢
  clear hxr hfr; have hxr := HI.out.rest; have hfr := HI.out.froz5
  go_upto_region 15 with (fail)
  replace HI := Aside0.mk (HI.out.set5 s5)
  generalize W11.setCell ⟨w.heap.size + 1 + 1, 0, none⟩ (.string s5) = W12 at HI ⊢
  clear hxr hfr H5
  go_wp2_with fail
  refine (policy_scope.calls k _ sc ok2 _ HSC.out).mono ?_
  rintro e w10 ⟨v3, rfl, ho3, hb3⟩
  have HO3 := Aside0.mk (Kd.R_lower ho3 HI.out.be.size)
  replace HI := Aside0.mk (HI.out.below hb3)
  clear ho3 hb3 HSC; have h := HH.out; clear HH; by_cases c4 : ok2 = true
  ·
   subst c4; rw [if_pos rfl] at h; have hx3 := HI.out.cell 3 (.slice none 0 0) rfl; have hf3 := HI.out.froz 3
   obtain ⟨A3, c3, rfl⟩ := Kd.R_slice HO3.out
   go_wp2
   go_meet
   case rel => exact ⟨sc, s5, .slice A3 sc.length c3, ⟨h⟩, ⟨HI.out.set4 3 _ rfl⟩, ⟨HI.out.row3 HO3.out 3 _⟩⟩
  rw [if_neg c4] at h
  simp only [Option.some.injEq, Prod.mk.injEq] at h
  obtain ⟨rfl, rfl, rfl, rfl, rfl, rfl⟩ := h
  obtain rfl : ok2 = false := Bool.eq_false_iff.mpr c4
  clear c4; have hx0 := HI.out.cell 0 (.bool d) rfl; have hx1 := HI.out.cell 1 (.int .i64 kd) rfl; have hx2 := HI.out.cell 2 (.string tn) rfl; have hx3 := HI.out.cell 3 (.slice none 0 0) rfl; have hx4 := HI.out.cell 4 (.slice none 0 0) rfl; have hy0 := HI.out.cellz 0 (.bool false) rfl; have hy1 := HI.out.cellz 1 (.int .i64 0) rfl; have hy2 := HI.out.cellz 2 (.string ⟨#[]⟩) rfl; have hy3 := HI.out.cellz 3 (.slice none 0 0) rfl; have hy4 := HI.out.cellz 4 (.slice none 0 0) rfl; have hz0 := HI.out.frozz 0; have hz1 := HI.out.frozz 1; have hz2 := HI.out.frozz 2; have hz3 := HI.out.frozz 3
  have hz4 := HI.out.frozz 4; go_wp2; have hdone := HI.out.done (Kd.R_nil k33 33 _ _ _) (Kd.R_nil Kd.string 9 _ _ _)
  refine bodyPost_ret (results_ct (fn := Tryz.f42) rfl _ _ w.heap.size 46 _ (0, 0) _ rfl hdone.1 Tryz.underlying46 rfl (by kernel_rfl)) rfl ?_
  exact ⟨_, _, rfl, hdone.2.1, hdone.2.2.1, hdone.2.2.2⟩
 clear HI HH
 obtain ⟨sc, rs2, v3, HH, HI, HO3⟩ := hcut
 have hxr := HI.out.rest; have h := HH.out; clear HH
 unfold policy_rule.hide at h
 obtain ⟨⟨tail2, ok3⟩, hc, h⟩ := Option.bind_eq_some_iff.mp h
 have HC := Aside0.mk hc; have HH := Aside0.mk h; clear hc h
 go_wp2_with fail
 refine (strings_CutPrefix.calls rs2 _ tail2 ok3 _ HC.out).mono ?_
 rintro e w11 ⟨rfl, ⟨nd11, rfl⟩⟩
 replace HI := Aside0.mk (HI.out.drewN nd11)
 replace HO3 := Aside0.mk (Kd.R_drewN HO3.out nd11)
 clear HC hxr
 go_upto_if 66 with (fail)
 go_cut [13] (fun v13 wc => ∃ (hd : List ByteArray) (v4 : Value), Aside0 (policy_rule.fin k s d kd tn sc hd = some (r1, r2, r3, r4, r5, r6)) ∧ Aside0 (RuI w #[.bool d, .int .i64 kd, .string tn, v3, v4] rs2 wc) ∧ Aside0 (Kd.R k33 33 wc w.heap.size (fun _ => True) v3 sc) ∧ Aside0 (Kd.R Kd.string 9 wc w.heap.size (fun _ => True) v4 hd))
 case first =>
  have h := HH.out; clear HH; by_cases c1 : ok3 = true; rotate_left
  ·
   obtain rfl : ok3 = false := Bool.eq_false_iff.mpr c1
   rw [if_neg c1] at h; clear c1; go_wp2
   go_meet
   case rel => exact ⟨[], .slice none 0 0, ⟨h⟩, HI, HO3, ⟨Kd.R_nil _ _ _ _ _⟩⟩
  subst c1; rw [if_pos rfl] at h
  obtain ⟨hd, hs2, h⟩ := Option.bind_eq_some_iff.mp h
  have HS2 := Aside0.mk hs2; clear hs2
  go_wp2_with fail
  refine (strings_Split.calls _ _ hd _ HS2.out (env_below HE.out HI.out.be)).mono ?_
  rintro e w12 ⟨v4, rfl, ho4, hb4⟩
  have HO4 := Aside0.mk (Kd.R_lower ho4 HI.out.be.size)
  replace HO3 := Aside0.mk (Kd.R_below HO3.out hb4)
  replace HI := Aside0.mk (HI.out.below hb4)
  clear ho4 hb4 HS2; have hx4 := HI.out.cell 4 (.slice none 0 0) rfl; have hf4 := HI.out.froz 4
  obtain ⟨A4, c4, rfl⟩ := Kd.R_slice HO4.out
  go_wp2
  go_meet
  case rel => exact ⟨hd, .slice A4 hd.length c4, ⟨h⟩, ⟨HI.out.set4 4 _ rfl⟩, ⟨HI.out.row3 HO3.out 4 _⟩, ⟨HI.out.row4 HO4.out 4 _⟩⟩
 clear HI HH HO3
 obtain ⟨hd, v4, HH, HI, HO3, HO4⟩ := hcut
 obtain ⟨A3, c3, rfl⟩ := Kd.R_slice HO3.out
 obtain ⟨A4, c4, rfl⟩ := Kd.R_slice HO4.out
 have h := HH.out; clear HH
 unfold policy_rule.fin at h
 obtain ⟨okw, hw, h⟩ := Option.bind_eq_some_iff.mp h
 have HW := Aside0.mk hw; have HH := Aside0.mk h; clear hw h; have hx4 := HI.out.cell 4 (.slice A4 hd.length c4) rfl
 have hl9 : hd.length ≤ 9223372036854775807 := (flatStr.C (Kd.R_reads' HO4.out).2.2).2.1
 go_wp2_with fail
 go_loopw [73] (fun i wr => ∃ j : Nat, j ≤ hd.length ∧ i = .int .i64 j ∧ Aside0 (wordsF (hd.drop j) = some okw) ∧ Aside0 (RuI w #[.bool d, .int .i64 kd, .string tn, .slice A3 sc.length c3, .slice A4 hd.length c4] rs2 wr) ∧ Aside0 (Kd.R k33 33 wr w.heap.size (fun _ => True) (.slice A3 sc.length c3) sc) ∧ Aside0 (Kd.R Kd.string 9 wr w.heap.size (fun _ => True) (.slice A4 hd.length c4) hd)) (fun i _ => hd.length - (intOf i).toNat)
 case atStart => exact ⟨0, Nat.zero_le _, rfl, HW, HI, HO3, HO4⟩
 case round =>
  clear HI HO3 HO4 HW hx4
  obtain ⟨j, hj, rfl, HW, HI, HO3, HO4⟩ := hrel
  by_cases hlt : j < hd.length
  ·
   have c9b0 : decide ((j : Int) < (hd.length : Int)) = true := decide_eq_true (by omega)
   have c9b1 : decide (j < hd.length) = true := decide_eq_true hlt
   have p9 : (0 : Int) ≤ (j : Int) := by omega
   have q9 : (j : Int) < (hd.length : Int) := by omega
   obtain ⟨ad, e9, hx9⟩ := Kd.at_string (Kd.R_reads' HO4.out).2.2 (j : Int) p9 q9
   cases e9; rw [Int.toNat_natCast] at hx9
   have hg : rdOf ByteArray.empty hd (j : Int) = hd[j] := by
    unfold rdOf
    simp [List.getD, List.getElem?_eq_getElem hlt]
   have hw := HW.out; rw [List.drop_eq_getElem_cons hlt, ← hg, wordsF] at hw
   obtain ⟨b, hb, hw⟩ := Option.bind_eq_some_iff.mp hw
   have HB := Aside0.mk hb; have HW2 := Aside0.mk hw; clear hb hw HW hg; replace p9 := eq_true p9; replace q9 := eq_true q9
   go_wp2_with fail
   refine (policy_word.calls _ b _ HB.out).mono ?_
   rintro e w13 ⟨rfl, hbl⟩
   replace HO3 := Aside0.mk (Kd.R_below HO3.out hbl)
   replace HO4 := Aside0.mk (Kd.R_below HO4.out hbl)
   replace HI := Aside0.mk (HI.out.below hbl)
   clear hbl HB hx9; have hw := HW2.out; clear HW2; by_cases c1 : b = true
   ·
    subst c1; rw [if_pos rfl] at hw; clear HH; go_wp2
    go_roundw
    case rel => exact ⟨j + 1, hlt, by go_num, ⟨hw⟩, HI, HO3, HO4⟩
    case measure => simp [intOf]; omega
   obtain rfl : b = false := Bool.eq_false_iff.mpr c1
   rw [if_neg c1] at hw
   obtain rfl := Option.some.inj hw
   have h := HH.out; clear HH c1 hw; rw [if_neg (by simp)] at h
   simp only [Option.some.injEq, Prod.mk.injEq] at h
   obtain ⟨rfl, rfl, rfl, rfl, rfl, rfl⟩ := h
   have hx0 := HI.out.cell 0 (.bool d) rfl; have hx1 := HI.out.cell 1 (.int .i64 kd) rfl; have hx2 := HI.out.cell 2 (.string tn) rfl; have hx3 := HI.out.cell 3 (.slice A3 sc.length c3) rfl; have hx4 := HI.out.cell 4 (.slice (some ad) hd.length c4) rfl; have hy0 := HI.out.cellz 0 (.bool false) rfl; have hy1 := HI.out.cellz 1 (.int .i64 0) rfl; have hy2 := HI.out.cellz 2 (.string ⟨#[]⟩) rfl; have hy3 := HI.out.cellz 3 (.slice none 0 0) rfl; have hy4 := HI.out.cellz 4 (.slice none 0 0) rfl; have hz0 := HI.out.frozz 0; have hz1 := HI.out.frozz 1; have hz2 := HI.out.frozz 2
   have hz3 := HI.out.frozz 3; have hz4 := HI.out.frozz 4; go_wp2; have hdone := HI.out.done HO3.out HO4.out
   refine bodyPost_ret (results_ct (fn := Tryz.f42) rfl _ _ w.heap.size 46 _ (0, 0) _ rfl hdone.1 Tryz.underlying46 rfl (by kernel_rfl)) rfl ?_
   exact ⟨_, _, rfl, hdone.2.1, hdone.2.2.1, hdone.2.2.2⟩
  obtain rfl : j = hd.length := by omega
  have c9b0 : decide ((hd.length : Int) < (hd.length : Int)) = false := decide_eq_false (by omega)
  have c9b1 : decide (hd.length < hd.length) = false := decide_eq_false hlt
  have hw := HW.out; rw [List.drop_length, wordsF] at hw
  obtain rfl := Option.some.inj hw
  have h := HH.out; rw [if_pos rfl] at h; have HH2 := Aside0.mk h; clear hw HW HH h; have hx0 := HI.out.cell 0 (.bool d) rfl; have hx1 := HI.out.cell 1 (.int .i64 kd) rfl; have hx2 := HI.out.cell 2 (.string tn) rfl; have hx3 := HI.out.cell 3 (.slice A3 sc.length c3) rfl; have hx4 := HI.out.cell 4 (.slice A4 hd.length c4) rfl; have hy0 := HI.out.cellz 0 (.bool false) rfl; have hy1 := HI.out.cellz 1 (.int .i64 0) rfl; have hy2 := HI.out.cellz 2 (.string ⟨#[]⟩) rfl; have hy3 := HI.out.cellz 3 (.slice none 0 0) rfl; have hy4 := HI.out.cellz 4 (.slice none 0 0) rfl; have hz0 := HI.out.frozz 0
  have hz1 := HI.out.frozz 1; have hz2 := HI.out.frozz 2; have hz3 := HI.out.frozz 3; have hz4 := HI.out.frozz 4
  go_upto_region 28 with (fail)
  have h := HH2.out; clear HH2; by_cases c1 : kd ≥ 0; rotate_left
  ·
   rw [if_neg c1] at h
   simp only [Option.some.injEq, Prod.mk.injEq] at h
   obtain ⟨rfl, rfl, rfl, rfl, rfl, rfl⟩ := h
   have c1b : decide (0 ≤ kd) = false := decide_eq_false c1
   clear c1
   refine wp_region_noPanic ?_
   refine wp_region_any (by kernel_rfl) ?_
   try (change wpAny _ _ _ _ _ _ _ (World.drew _))
   refine wpAny_take (i := 1) (v := ?_) rfl (by kernel_rfl) (by kernel_rfl) (by kernel_rfl) (fun _ _ _ h => h) (Or.inl ⟨by kernel_rfl, ?_⟩) ?_
   case refine_2 => intro w; go_simp; try with_reducible rfl
   refine wpAny_ready (rs := [0, 2]) (by kernel_rfl) (by simp) ?_
   refine AllReady.cons rfl (fun K hK => ?_) (AllReady.cons rfl (fun K hK => ?_) AllReady.nil)
   ·
    go_simp
    refine hK _ _ ?_
    clear hK K
    refine wpAny_ready (rs := [2]) (by kernel_rfl) (by simp) ?_
    refine AllReady.cons rfl (fun K hK => ?_) AllReady.nil
    go_simp
    refine hK _ _ ?_
    clear hK K
    refine wpAny_take (i := 3) (v := ?_) rfl (by kernel_rfl) (by kernel_rfl) (by kernel_rfl) (fun _ _ _ h => h) (Or.inl ⟨by kernel_rfl, ?_⟩) ?_
    case refine_2 => intro w; go_simp; try with_reducible rfl
    refine wpAny_take (i := 4) (v := ?_) rfl (by kernel_rfl) (by kernel_rfl) (by kernel_rfl) (fun _ _ _ h => h) (Or.inl ⟨by kernel_rfl, ?_⟩) ?_
    case refine_2 => intro w; go_simp; try with_reducible rfl
    refine wpAny_take (i := 5) (v := undef) rfl (by kernel_rfl) (by kernel_rfl) (by kernel_rfl) (fun _ _ _ h => h) (Or.inr ⟨by kernel_rfl, rfl⟩) ?_
    refine wpAny_take (i := 6) (v := undef) rfl (by kernel_rfl) (by kernel_rfl) (by kernel_rfl) (fun _ _ _ h => h) (Or.inr ⟨by kernel_rfl, rfl⟩) ?_
    refine wpAny_take (i := 7) (v := undef) rfl (by kernel_rfl) (by kernel_rfl) (by kernel_rfl) (fun _ _ _ h => h) (Or.inr ⟨by kernel_rfl, rfl⟩) ?_
    refine wpAny_take (i := 8) (v := ?_) rfl (by kernel_rfl) (by kernel_rfl) (by kernel_rfl) (fun _ _ _ h => h) (Or.inl ⟨by kernel_rfl, ?_⟩) ?_
    case refine_2 => intro w; go_simp; try with_reducible rfl
    refine wpAny_take (i := 9) (v := ?_) rfl (by kernel_rfl) (by kernel_rfl) (by kernel_rfl) (fun _ _ _ h => h) (Or.inl ⟨by kernel_rfl, ?_⟩) ?_
    case refine_2 => intro w; go_simp; try with_reducible rfl
    refine wpAny_take (i := 10) (v := undef) rfl (by kernel_rfl) (by kernel_rfl) (by kernel_rfl) (fun _ _ _ h => h) (Or.inr ⟨by kernel_rfl, rfl⟩) ?_
    refine wpAny_take (i := 11) (v := undef) rfl (by kernel_rfl) (by kernel_rfl) (by kernel_rfl) (fun _ _ _ h => h) (Or.inr ⟨by kernel_rfl, rfl⟩) ?_
    refine wpAny_take (i := 12) (v := undef) rfl (by kernel_rfl) (by kernel_rfl) (by kernel_rfl) (fun _ _ _ h => h) (Or.inr ⟨by kernel_rfl, rfl⟩) ?_
    refine wpAny_take (i := 13) (v := undef) rfl (by kernel_rfl) (by kernel_rfl) (by kernel_rfl) (fun _ _ _ h => h) (Or.inr ⟨by kernel_rfl, rfl⟩) ?_
    refine wpAny_take (i := 14) (v := ?_) rfl (by kernel_rfl) (by kernel_rfl) (by kernel_rfl) (fun _ _ _ h => h) (Or.inl ⟨by kernel_rfl, ?_⟩) ?_
    case refine_2 => intro w; go_simp; try with_reducible rfl
    refine wpAny_ready (rs := [15]) (by kernel_rfl) (by simp) ?_
    refine AllReady.cons rfl (fun K hK => ?_) AllReady.nil
    go_simp
    refine hK _ _ ?_
    clear hK K
    refine wpAny_take (i := 16) (v := ?_) rfl (by kernel_rfl) (by kernel_rfl) (by kernel_rfl) (fun _ _ _ h => h) (Or.inl ⟨by kernel_rfl, ?_⟩) ?_
    case refine_2 => intro w; go_simp; try with_reducible rfl
    refine wpAny_done (by kernel_rfl) ?_ _
    refine NoPanic.normal ?_
    show Exit.then _ _ Exit.normal (Act.put _ (some 3) _) _
    simp only [Act.put, List.setIfInBounds_toArray, List.set_cons_zero, List.set_cons_succ]; go_wp2; have hdone := HI.out.done HO3.out HO4.out
    refine bodyPost_ret (results_ct (fn := Tryz.f42) rfl _ _ w.heap.size 46 _ (0, 0) _ rfl hdone.1 Tryz.underlying46 rfl (by kernel_rfl)) rfl ?_
    exact ⟨_, _, rfl, Kd.R_drew hdone.2.1, Kd.R_drew hdone.2.2.1, hdone.2.2.2.drew⟩
   go_simp
   refine hK _ _ ?_
   clear hK K
   refine wpAny_take (i := 3) (v := ?_) rfl (by kernel_rfl) (by kernel_rfl) (by kernel_rfl) (fun _ _ _ h => h) (Or.inl ⟨by kernel_rfl, ?_⟩) ?_
   case refine_2 => intro w; go_simp; try with_reducible rfl
   refine wpAny_take (i := 4) (v := ?_) rfl (by kernel_rfl) (by kernel_rfl) (by kernel_rfl) (fun _ _ _ h => h) (Or.inl ⟨by kernel_rfl, ?_⟩) ?_
   case refine_2 => intro w; go_simp; try with_reducible rfl
   refine wpAny_take (i := 5) (v := undef) rfl (by kernel_rfl) (by kernel_rfl) (by kernel_rfl) (fun _ _ _ h => h) (Or.inr ⟨by kernel_rfl, rfl⟩) ?_
   refine wpAny_take (i := 6) (v := undef) rfl (by kernel_rfl) (by kernel_rfl) (by kernel_rfl) (fun _ _ _ h => h) (Or.inr ⟨by kernel_rfl, rfl⟩) ?_
   refine wpAny_take (i := 7) (v := undef) rfl (by kernel_rfl) (by kernel_rfl) (by kernel_rfl) (fun _ _ _ h => h) (Or.inr ⟨by kernel_rfl, rfl⟩) ?_
   refine wpAny_take (i := 8) (v := ?_) rfl (by kernel_rfl) (by kernel_rfl) (by kernel_rfl) (fun _ _ _ h => h) (Or.inl ⟨by kernel_rfl, ?_⟩) ?_
   case refine_2 => intro w; go_simp; try with_reducible rfl
   refine wpAny_take (i := 9) (v := ?_) rfl (by kernel_rfl) (by kernel_rfl) (by kernel_rfl) (fun _ _ _ h => h) (Or.inl ⟨by kernel_rfl, ?_⟩) ?_
   case refine_2 => intro w; go_simp; try with_reducible rfl
   refine wpAny_take (i := 10) (v := undef) rfl (by kernel_rfl) (by kernel_rfl) (by kernel_rfl) (fun _ _ _ h => h) (Or.inr ⟨by kernel_rfl, rfl⟩) ?_
   refine wpAny_take (i := 11) (v := undef) rfl (by kernel_rfl) (by kernel_rfl) (by kernel_rfl) (fun _ _ _ h => h) (Or.inr ⟨by kernel_rfl, rfl⟩) ?_
   refine wpAny_take (i := 12) (v := undef) rfl (by kernel_rfl) (by kernel_rfl) (by kernel_rfl) (fun _ _ _ h => h) (Or.inr ⟨by kernel_rfl, rfl⟩) ?_
   refine wpAny_take (i := 13) (v := undef) rfl (by kernel_rfl) (by kernel_rfl) (by kernel_rfl) (fun _ _ _ h => h) (Or.inr ⟨by kernel_rfl, rfl⟩) ?_
   refine wpAny_take (i := 14) (v := ?_) rfl (by kernel_rfl) (by kernel_rfl) (by kernel_rfl) (fun _ _ _ h => h) (Or.inl ⟨by kernel_rfl, ?_⟩) ?_
   case refine_2 => intro w; go_simp; try with_reducible rfl
   refine wpAny_ready (rs := [0]) (by kernel_rfl) (by simp) ?_
   refine AllReady.cons rfl (fun K hK => ?_) AllReady.nil
   go_simp
   refine hK _ _ ?_
   clear hK K
   refine wpAny_ready (rs := [15]) (by kernel_rfl) (by simp) ?_
   refine AllReady.cons rfl (fun K hK => ?_) AllReady.nil
   go_simp
   refine hK _ _ ?_
   clear hK K
   refine wpAny_take (i := 16) (v := ?_) rfl (by kernel_rfl) (by kernel_rfl) (by kernel_rfl) (fun _ _ _ h => h) (Or.inl ⟨by kernel_rfl, ?_⟩) ?_
   case refine_2 => intro w; go_simp; try with_reducible rfl
   refine wpAny_done (by kernel_rfl) ?_ _
   refine NoPanic.normal ?_
   show Exit.then _ _ Exit.normal (Act.put _ (some 3) _) _
   simp only [Act.put, List.setIfInBounds_toArray, List.set_cons_zero, List.set_cons_succ]; go_wp2; have hdone := HI.out.done HO3.out HO4.out
   refine bodyPost_ret (results_ct (fn := Tryz.f42) rfl _ _ w.heap.size 46 _ (0, 0) _ rfl hdone.1 Tryz.underlying46 rfl (by kernel_rfl)) rfl ?_
   exact ⟨_, _, rfl, Kd.R_drew hdone.2.1, Kd.R_drew hdone.2.2.1, hdone.2.2.2.drew⟩
  rw [if_pos c1] at h
  have c1b : decide (0 ≤ kd) = true := decide_eq_true c1
  clear c1; by_cases c2 : tn.toList = ([] : List UInt8)
  ·
   rw [if_pos c2] at h
   simp only [Option.some.injEq, Prod.mk.injEq] at h
   obtain ⟨rfl, rfl, rfl, rfl, rfl, rfl⟩ := h
   have c2b : (tn.toList != ([] : List UInt8)) = false := bne_eq_false_iff_eq.mpr c2
   have c2c := eq_true c2
   have c2d : tn.toList.isEmpty = true := by simpa using c2
   clear c2
   refine wp_region_noPanic ?_
   refine wp_region_any (by kernel_rfl) ?_
   try (change wpAny _ _ _ _ _ _ _ (World.drew _))
   refine wpAny_take (i := 1) (v := ?_) rfl (by kernel_rfl) (by kernel_rfl) (by kernel_rfl) (fun _ _ _ h => h) (Or.inl ⟨by kernel_rfl, ?_⟩) ?_
   case refine_2 => intro w; go_simp; try with_reducible rfl
   refine wpAny_ready (rs := [0, 2]) (by kernel_rfl) (by simp) ?_
   refine AllReady.cons rfl (fun K hK => ?_) (AllReady.cons rfl (fun K hK => ?_) AllReady.nil)
   ·
    go_simp
    refine hK _ _ ?_
    clear hK K
    refine wpAny_ready (rs := [2]) (by kernel_rfl) (by simp) ?_
    refine AllReady.cons rfl (fun K hK => ?_) AllReady.nil
    go_simp
    refine hK _ _ ?_
    clear hK K
    refine wpAny_take (i := 3) (v := ?_) rfl (by kernel_rfl) (by kernel_rfl) (by kernel_rfl) (fun _ _ _ h => h) (Or.inl ⟨by kernel_rfl, ?_⟩) ?_
    case refine_2 => intro w; go_simp; try with_reducible rfl
    refine wpAny_take (i := 4) (v := ?_) rfl (by kernel_rfl) (by kernel_rfl) (by kernel_rfl) (fun _ _ _ h => h) (Or.inl ⟨by kernel_rfl, ?_⟩) ?_
    case refine_2 => intro w; go_simp; try with_reducible rfl
    refine wpAny_take (i := 5) (v := ?_) rfl (by kernel_rfl) (by kernel_rfl) (by kernel_rfl) (fun _ _ _ h => h) (Or.inl ⟨by kernel_rfl, ?_⟩) ?_
    case refine_2 => intro w; go_simp; try with_reducible rfl
    refine wpAny_ready (rs := [6]) (by kernel_rfl) (by simp) ?_
    refine AllReady.cons rfl (fun K hK => ?_) AllReady.nil
    go_simp
    refine hK _ _ ?_
    clear hK K
    refine wpAny_take (i := 7) (v := ?_) rfl (by kernel_rfl) (by kernel_rfl) (by kernel_rfl) (fun _ _ _ h => h) (Or.inl ⟨by kernel_rfl, ?_⟩) ?_
    case refine_2 => intro w; go_simp; try with_reducible rfl
    refine wpAny_take (i := 8) (v := ?_) rfl (by kernel_rfl) (by kernel_rfl) (by kernel_rfl) (fun _ _ _ h => h) (Or.inl ⟨by kernel_rfl, ?_⟩) ?_
    case refine_2 => intro w; go_simp; try with_reducible rfl
    refine wpAny_take (i := 9) (v := ?_) rfl (by kernel_rfl) (by kernel_rfl) (by kernel_rfl) (fun _ _ _ h => h) (Or.inl ⟨by kernel_rfl, ?_⟩) ?_
    case refine_2 => intro w; go_simp; try with_reducible rfl
    refine wpAny_take (i := 10) (v := undef) rfl (by kernel_rfl) (by kernel_rfl) (by kernel_rfl) (fun _ _ _ h => h) (Or.inr ⟨by kernel_rfl, rfl⟩) ?_
    refine wpAny_take (i := 11) (v := undef) rfl (by kernel_rfl) (by kernel_rfl) (by kernel_rfl) (fun _ _ _ h => h) (Or.inr ⟨by kernel_rfl, rfl⟩) ?_
    refine wpAny_take (i := 12) (v := undef) rfl (by kernel_rfl) (by kernel_rfl) (by kernel_rfl) (fun _ _ _ h => h) (Or.inr ⟨by kernel_rfl, rfl⟩) ?_
    refine wpAny_take (i := 13) (v := undef) rfl (by kernel_rfl) (by kernel_rfl) (by kernel_rfl) (fun _ _ _ h => h) (Or.inr ⟨by kernel_rfl, rfl⟩) ?_
    refine wpAny_take (i := 14) (v := ?_) rfl (by kernel_rfl) (by kernel_rfl) (by kernel_rfl) (fun _ _ _ h => h) (Or.inl ⟨by kernel_rfl, ?_⟩) ?_
    case refine_2 => intro w; go_simp; try with_reducible rfl
    refine wpAny_ready (rs := [15]) (by kernel_rfl) (by simp) ?_
    refine AllReady.cons rfl (fun K hK => ?_) AllReady.nil
    go_simp
    refine hK _ _ ?_
    clear hK K
    refine wpAny_take (i := 16) (v := ?_) rfl (by kernel_rfl) (by kernel_rfl) (by kernel_rfl) (fun _ _ _ h => h) (Or.inl ⟨by kernel_rfl, ?_⟩) ?_
    case refine_2 => intro w; go_simp; try with_reducible rfl
    refine wpAny_done (by kernel_rfl) ?_ _
    refine NoPanic.normal ?_
    show Exit.then _ _ Exit.normal (Act.put _ (some 3) _) _
    simp only [Act.put, List.setIfInBounds_toArray, List.set_cons_zero, List.set_cons_succ]; go_wp2; have hdone := HI.out.done HO3.out HO4.out
    refine bodyPost_ret (results_ct (fn := Tryz.f42) rfl _ _ w.heap.size 46 _ (0, 0) _ rfl hdone.1 Tryz.underlying46 rfl (by kernel_rfl)) rfl ?_
    exact ⟨_, _, rfl, Kd.R_drew hdone.2.1, Kd.R_drew hdone.2.2.1, hdone.2.2.2.drew⟩
   go_simp
   refine hK _ _ ?_
   clear hK K
   refine wpAny_take (i := 3) (v := ?_) rfl (by kernel_rfl) (by kernel_rfl) (by kernel_rfl) (fun _ _ _ h => h) (Or.inl ⟨by kernel_rfl, ?_⟩) ?_
   case refine_2 => intro w; go_simp; try with_reducible rfl
   refine wpAny_take (i := 4) (v := ?_) rfl (by kernel_rfl) (by kernel_rfl) (by kernel_rfl) (fun _ _ _ h => h) (Or.inl ⟨by kernel_rfl, ?_⟩) ?_
   case refine_2 => intro w; go_simp; try with_reducible rfl
   refine wpAny_take (i := 5) (v := ?_) rfl (by kernel_rfl) (by kernel_rfl) (by kernel_rfl) (fun _ _ _ h => h) (Or.inl ⟨by kernel_rfl, ?_⟩) ?_
   case refine_2 => intro w; go_simp; try with_reducible rfl
   refine wpAny_ready (rs := [0, 6]) (by kernel_rfl) (by simp) ?_
   refine AllReady.cons rfl (fun K hK => ?_) (AllReady.cons rfl (fun K hK => ?_) AllReady.nil)
   ·
    go_simp
    refine hK _ _ ?_
    clear hK K
    refine wpAny_ready (rs := [6]) (by kernel_rfl) (by simp) ?_
    refine AllReady.cons rfl (fun K hK => ?_) AllReady.nil
    go_simp
    refine hK _ _ ?_
    clear hK K
    refine wpAny_take (i := 7) (v := ?_) rfl (by kernel_rfl) (by kernel_rfl) (by kernel_rfl) (fun _ _ _ h => h) (Or.inl ⟨by kernel_rfl, ?_⟩) ?_
    case refine_2 => intro w; go_simp; try with_reducible rfl
    refine wpAny_take (i := 8) (v := ?_) rfl (by kernel_rfl) (by kernel_rfl) (by kernel_rfl) (fun _ _ _ h => h) (Or.inl ⟨by kernel_rfl, ?_⟩) ?_
    case refine_2 => intro w; go_simp; try with_reducible rfl
    refine wpAny_take (i := 9) (v := ?_) rfl (by kernel_rfl) (by kernel_rfl) (by kernel_rfl) (fun _ _ _ h => h) (Or.inl ⟨by kernel_rfl, ?_⟩) ?_
    case refine_2 => intro w; go_simp; try with_reducible rfl
    refine wpAny_take (i := 10) (v := undef) rfl (by kernel_rfl) (by kernel_rfl) (by kernel_rfl) (fun _ _ _ h => h) (Or.inr ⟨by kernel_rfl, rfl⟩) ?_
    refine wpAny_take (i := 11) (v := undef) rfl (by kernel_rfl) (by kernel_rfl) (by kernel_rfl) (fun _ _ _ h => h) (Or.inr ⟨by kernel_rfl, rfl⟩) ?_
    refine wpAny_take (i := 12) (v := undef) rfl (by kernel_rfl) (by kernel_rfl) (by kernel_rfl) (fun _ _ _ h => h) (Or.inr ⟨by kernel_rfl, rfl⟩) ?_
    refine wpAny_take (i := 13) (v := undef) rfl (by kernel_rfl) (by kernel_rfl) (by kernel_rfl) (fun _ _ _ h => h) (Or.inr ⟨by kernel_rfl, rfl⟩) ?_
    refine wpAny_take (i := 14) (v := ?_) rfl (by kernel_rfl) (by kernel_rfl) (by kernel_rfl) (fun _ _ _ h => h) (Or.inl ⟨by kernel_rfl, ?_⟩) ?_
    case refine_2 => intro w; go_simp; try with_reducible rfl
    refine wpAny_ready (rs := [15]) (by kernel_rfl) (by simp) ?_
    refine AllReady.cons rfl (fun K hK => ?_) AllReady.nil
    go_simp
    refine hK _ _ ?_
    clear hK K
    refine wpAny_take (i := 16) (v := ?_) rfl (by kernel_rfl) (by kernel_rfl) (by kernel_rfl) (fun _ _ _ h => h) (Or.inl ⟨by kernel_rfl, ?_⟩) ?_
    case refine_2 => intro w; go_simp; try with_reducible rfl
    refine wpAny_done (by kernel_rfl) ?_ _
    refine NoPanic.normal ?_
    show Exit.then _ _ Exit.normal (Act.put _ (some 3) _) _
    simp only [Act.put, List.setIfInBounds_toArray, List.set_cons_zero, List.set_cons_succ]; go_wp2; have hdone := HI.out.done HO3.out HO4.out
    refine bodyPost_ret (results_ct (fn := Tryz.f42) rfl _ _ w.heap.size 46 _ (0, 0) _ rfl hdone.1 Tryz.underlying46 rfl (by kernel_rfl)) rfl ?_
    exact ⟨_, _, rfl, Kd.R_drew hdone.2.1, Kd.R_drew hdone.2.2.1, hdone.2.2.2.drew⟩
   go_simp
   refine hK _ _ ?_
   clear hK K
   refine wpAny_take (i := 7) (v := ?_) rfl (by kernel_rfl) (by kernel_rfl) (by kernel_rfl) (fun _ _ _ h => h) (Or.inl ⟨by kernel_rfl, ?_⟩) ?_
   case refine_2 => intro w; go_simp; try with_reducible rfl
   refine wpAny_take (i := 8) (v := ?_) rfl (by kernel_rfl) (by kernel_rfl) (by kernel_rfl) (fun _ _ _ h => h) (Or.inl ⟨by kernel_rfl, ?_⟩) ?_
   case refine_2 => intro w; go_simp; try with_reducible rfl
   refine wpAny_take (i := 9) (v := ?_) rfl (by kernel_rfl) (by kernel_rfl) (by kernel_rfl) (fun _ _ _ h => h) (Or.inl ⟨by kernel_rfl, ?_⟩) ?_
   case refine_2 => intro w; go_simp; try with_reducible rfl
   refine wpAny_take (i := 10) (v := undef) rfl (by kernel_rfl) (by kernel_rfl) (by kernel_rfl) (fun _ _ _ h => h) (Or.inr ⟨by kernel_rfl, rfl⟩) ?_
   refine wpAny_take (i := 11) (v := undef) rfl (by kernel_rfl) (by kernel_rfl) (by kernel_rfl) (fun _ _ _ h => h) (Or.inr ⟨by kernel_rfl, rfl⟩) ?_
   refine wpAny_take (i := 12) (v := undef) rfl (by kernel_rfl) (by kernel_rfl) (by kernel_rfl) (fun _ _ _ h => h) (Or.inr ⟨by kernel_rfl, rfl⟩) ?_
   refine wpAny_take (i := 13) (v := undef) rfl (by kernel_rfl) (by kernel_rfl) (by kernel_rfl) (fun _ _ _ h => h) (Or.inr ⟨by kernel_rfl, rfl⟩) ?_
   refine wpAny_take (i := 14) (v := ?_) rfl (by kernel_rfl) (by kernel_rfl) (by kernel_rfl) (fun _ _ _ h => h) (Or.inl ⟨by kernel_rfl, ?_⟩) ?_
   case refine_2 => intro w; go_simp; try with_reducible rfl
   refine wpAny_ready (rs := [0]) (by kernel_rfl) (by simp) ?_
   refine AllReady.cons rfl (fun K hK => ?_) AllReady.nil
   go_simp
   refine hK _ _ ?_
   clear hK K
   refine wpAny_ready (rs := [15]) (by kernel_rfl) (by simp) ?_
   refine AllReady.cons rfl (fun K hK => ?_) AllReady.nil
   go_simp
   refine hK _ _ ?_
   clear hK K
   refine wpAny_take (i := 16) (v := ?_) rfl (by kernel_rfl) (by kernel_rfl) (by kernel_rfl) (fun _ _ _ h => h) (Or.inl ⟨by kernel_rfl, ?_⟩) ?_
   case refine_2 => intro w; go_simp; try with_reducible rfl
   refine wpAny_done (by kernel_rfl) ?_ _
   refine NoPanic.normal ?_
   show Exit.then _ _ Exit.normal (Act.put _ (some 3) _) _
   simp only [Act.put, List.setIfInBounds_toArray, List.set_cons_zero, List.set_cons_succ]; go_wp2; have hdone := HI.out.done HO3.out HO4.out
   refine bodyPost_ret (results_ct (fn := Tryz.f42) rfl _ _ w.heap.size 46 _ (0, 0) _ rfl hdone.1 Tryz.underlying46 rfl (by kernel_rfl)) rfl ?_
   exact ⟨_, _, rfl, Kd.R_drew hdone.2.1, Kd.R_drew hdone.2.2.1, hdone.2.2.2.drew⟩
  rw [if_neg c2] at h
  obtain ⟨t, ht, h⟩ := Option.bind_eq_some_iff.mp h
  simp only [Option.some.injEq, Prod.mk.injEq] at h
  obtain ⟨rfl, rfl, rfl, rfl, rfl, rfl⟩ := h
  have c2b : (tn.toList != ([] : List UInt8)) = true := bne_iff_ne.mpr c2
  have c2c := eq_false c2
  have c2d : tn.toList.isEmpty = false := by simpa using c2
  have HT := Aside0.mk ht; clear c2 ht
  refine wp_region_noPanic ?_
  refine wp_region_any (by kernel_rfl) ?_
  try (change wpAny _ _ _ _ _ _ _ (World.drew _))
  replace HI := Aside0.mk HI.out.drew
  replace HO3 := Aside0.mk (Kd.R_drew HO3.out)
  replace HO4 := Aside0.mk (Kd.R_drew HO4.out)
  refine wpAny_take (i := 1) (v := ?_) rfl (by kernel_rfl) (by kernel_rfl) (by kernel_rfl) (fun _ _ _ h => h) (Or.inl ⟨by kernel_rfl, ?_⟩) ?_
  case refine_2 => intro w; go_simp; try with_reducible rfl
  refine wpAny_ready (rs := [0, 2]) (by kernel_rfl) (by simp) ?_
  refine AllReady.cons rfl (fun K hK => ?_) (AllReady.cons rfl (fun K hK => ?_) AllReady.nil)
  ·
   go_simp
   refine hK _ _ ?_
   clear hK K
   refine wpAny_ready (rs := [2]) (by kernel_rfl) (by simp) ?_
   refine AllReady.cons rfl (fun K hK => ?_) AllReady.nil
   go_simp
   refine hK _ _ ?_
   clear hK K
   refine wpAny_take (i := 3) (v := ?_) rfl (by kernel_rfl) (by kernel_rfl) (by kernel_rfl) (fun _ _ _ h => h) (Or.inl ⟨by kernel_rfl, ?_⟩) ?_
   case refine_2 => intro w; go_simp; try with_reducible rfl
   refine wpAny_take (i := 4) (v := ?_) rfl (by kernel_rfl) (by kernel_rfl) (by kernel_rfl) (fun _ _ _ h => h) (Or.inl ⟨by kernel_rfl, ?_⟩) ?_
   case refine_2 => intro w; go_simp; try with_reducible rfl
   refine wpAny_take (i := 5) (v := ?_) rfl (by kernel_rfl) (by kernel_rfl) (by kernel_rfl) (fun _ _ _ h => h) (Or.inl ⟨by kernel_rfl, ?_⟩) ?_
   case refine_2 => intro w; go_simp; try with_reducible rfl
   refine wpAny_ready (rs := [6]) (by kernel_rfl) (by simp) ?_
   refine AllReady.cons rfl (fun K hK => ?_) AllReady.nil
   go_simp
   refine hK _ _ ?_
   clear hK K
   refine wpAny_take (i := 7) (v := ?_) rfl (by kernel_rfl) (by kernel_rfl) (by kernel_rfl) (fun _ _ _ h => h) (Or.inl ⟨by kernel_rfl, ?_⟩) ?_
   case refine_2 => intro w; go_simp; try with_reducible rfl
   refine wpAny_take (i := 8) (v := ?_) rfl (by kernel_rfl) (by kernel_rfl) (by kernel_rfl) (fun _ _ _ h => h) (Or.inl ⟨by kernel_rfl, ?_⟩) ?_
   case refine_2 => intro w; go_simp; try with_reducible rfl
   refine wpAny_take (i := 9) (v := ?_) rfl (by kernel_rfl) (by kernel_rfl) (by kernel_rfl) (fun _ _ _ h => h) (Or.inl ⟨by kernel_rfl, ?_⟩) ?_
   case refine_2 => intro w; go_simp; try with_reducible rfl
   refine wpAny_take (i := 12) (v := ?_) rfl (by kernel_rfl) (by kernel_rfl) (by kernel_rfl) (fun _ _ _ h => h) (Or.inl ⟨by kernel_rfl, ?_⟩) ?_
   case refine_2 => intro w; go_simp; try with_reducible rfl
   refine wpAny_ready (rs := [10]) (by kernel_rfl) (by simp) ?_
   refine AllReady.cons rfl (fun K hK => ?_) AllReady.nil
   go_simp
   refine hK _ _ ?_
   clear hK K
   refine wpAny_ready (rs := [11]) (by kernel_rfl) (by simp) ?_
   refine AllReady.cons rfl (fun K hK => ?_) AllReady.nil
   go_simp
   refine (policy_line.calls k d kd tn A3 c3 sc A4 c4 hd t _ (Kd.R_reads' HO3.out).2.2 (Kd.R_reads' HO3.out).2.1 (Kd.R_reads' HO4.out).2.2 (Kd.R_reads' HO4.out).2.1 HT.out).mono ?_
   rintro e w14 ⟨rfl, hbl⟩
   replace HO3 := Aside0.mk (Kd.R_below HO3.out hbl)
   replace HO4 := Aside0.mk (Kd.R_below HO4.out hbl)
   replace HI := Aside0.mk (HI.out.below hbl)
   clear hbl hx0 hx1 hx2 hx3 hx4 hy0 hy1 hy2 hy3 hy4 hz0 hz1 hz2 hz3 hz4
   refine hK _ _ ?_
   clear hK K; have hx0 := HI.out.cell 0 (.bool d) rfl; have hx1 := HI.out.cell 1 (.int .i64 kd) rfl; have hx2 := HI.out.cell 2 (.string tn) rfl; have hx3 := HI.out.cell 3 (.slice A3 sc.length c3) rfl; have hx4 := HI.out.cell 4 (.slice A4 hd.length c4) rfl; have hy0 := HI.out.cellz 0 (.bool false) rfl; have hy1 := HI.out.cellz 1 (.int .i64 0) rfl; have hy2 := HI.out.cellz 2 (.string ⟨#[]⟩) rfl; have hy3 := HI.out.cellz 3 (.slice none 0 0) rfl; have hy4 := HI.out.cellz 4 (.slice none 0 0) rfl; have hz0 := HI.out.frozz 0; have hz1 := HI.out.frozz 1; have hz2 := HI.out.frozz 2
   have hz3 := HI.out.frozz 3; have hz4 := HI.out.frozz 4
   refine wpAny_take (i := 13) (v := ?_) rfl (by kernel_rfl) (by kernel_rfl) (by kernel_rfl) (fun _ _ _ h => h) (Or.inl ⟨by kernel_rfl, ?_⟩) ?_
   case refine_2 => intro w; go_simp; try with_reducible rfl
   refine wpAny_take (i := 14) (v := ?_) rfl (by kernel_rfl) (by kernel_rfl) (by kernel_rfl) (fun _ _ _ h => h) (Or.inl ⟨by kernel_rfl, ?_⟩) ?_
   case refine_2 => intro w; go_simp; try with_reducible rfl
   refine wpAny_ready (rs := [15]) (by kernel_rfl) (by simp) ?_
   refine AllReady.cons rfl (fun K hK => ?_) AllReady.nil
   go_simp
   refine hK _ _ ?_
   clear hK K
   refine wpAny_take (i := 16) (v := ?_) rfl (by kernel_rfl) (by kernel_rfl) (by kernel_rfl) (fun _ _ _ h => h) (Or.inl ⟨by kernel_rfl, ?_⟩) ?_
   case refine_2 => intro w; go_simp; try with_reducible rfl
   refine wpAny_done (by kernel_rfl) ?_ _
   refine NoPanic.normal ?_
   show Exit.then _ _ Exit.normal (Act.put _ (some 3) _) _
   simp only [Act.put, List.setIfInBounds_toArray, List.set_cons_zero, List.set_cons_succ]; go_wp2; have hdone := HI.out.done HO3.out HO4.out
   refine bodyPost_ret (results_ct (fn := Tryz.f42) rfl _ _ w.heap.size 46 _ (0, 0) _ rfl hdone.1 Tryz.underlying46 rfl (by kernel_rfl)) rfl ?_
   exact ⟨_, _, rfl, hdone.2.1, hdone.2.2.1, hdone.2.2.2⟩
  go_simp
  refine hK _ _ ?_
  clear hK K
  refine wpAny_take (i := 3) (v := ?_) rfl (by kernel_rfl) (by kernel_rfl) (by kernel_rfl) (fun _ _ _ h => h) (Or.inl ⟨by kernel_rfl, ?_⟩) ?_
  case refine_2 => intro w; go_simp; try with_reducible rfl
  refine wpAny_take (i := 4) (v := ?_) rfl (by kernel_rfl) (by kernel_rfl) (by kernel_rfl) (fun _ _ _ h => h) (Or.inl ⟨by kernel_rfl, ?_⟩) ?_
  case refine_2 => intro w; go_simp; try with_reducible rfl
  refine wpAny_take (i := 5) (v := ?_) rfl (by kernel_rfl) (by kernel_rfl) (by kernel_rfl) (fun _ _ _ h => h) (Or.inl ⟨by kernel_rfl, ?_⟩) ?_
  case refine_2 => intro w; go_simp; try with_reducible rfl
  refine wpAny_ready (rs := [0, 6]) (by kernel_rfl) (by simp) ?_
  refine AllReady.cons rfl (fun K hK => ?_) (AllReady.cons rfl (fun K hK => ?_) AllReady.nil)
  ·
   go_simp
   refine hK _ _ ?_
   clear hK K
   refine wpAny_ready (rs := [6]) (by kernel_rfl) (by simp) ?_
   refine AllReady.cons rfl (fun K hK => ?_) AllReady.nil
   go_simp
   refine hK _ _ ?_
   clear hK K
   refine wpAny_take (i := 7) (v := ?_) rfl (by kernel_rfl) (by kernel_rfl) (by kernel_rfl) (fun _ _ _ h => h) (Or.inl ⟨by kernel_rfl, ?_⟩) ?_
   case refine_2 => intro w; go_simp; try with_reducible rfl
   refine wpAny_take (i := 8) (v := ?_) rfl (by kernel_rfl) (by kernel_rfl) (by kernel_rfl) (fun _ _ _ h => h) (Or.inl ⟨by kernel_rfl, ?_⟩) ?_
   case refine_2 => intro w; go_simp; try with_reducible rfl
   refine wpAny_take (i := 9) (v := ?_) rfl (by kernel_rfl) (by kernel_rfl) (by kernel_rfl) (fun _ _ _ h => h) (Or.inl ⟨by kernel_rfl, ?_⟩) ?_
   case refine_2 => intro w; go_simp; try with_reducible rfl
   refine wpAny_take (i := 12) (v := ?_) rfl (by kernel_rfl) (by kernel_rfl) (by kernel_rfl) (fun _ _ _ h => h) (Or.inl ⟨by kernel_rfl, ?_⟩) ?_
   case refine_2 => intro w; go_simp; try with_reducible rfl
   refine wpAny_ready (rs := [10]) (by kernel_rfl) (by simp) ?_
   refine AllReady.cons rfl (fun K hK => ?_) AllReady.nil
   go_simp
   refine hK _ _ ?_
   clear hK K
   refine wpAny_ready (rs := [11]) (by kernel_rfl) (by simp) ?_
   refine AllReady.cons rfl (fun K hK => ?_) AllReady.nil
   go_simp
   refine (policy_line.calls k d kd tn A3 c3 sc A4 c4 hd t _ (Kd.R_reads' HO3.out).2.2 (Kd.R_reads' HO3.out).2.1 (Kd.R_reads' HO4.out).2.2 (Kd.R_reads' HO4.out).2.1 HT.out).mono ?_
   rintro e w14 ⟨rfl, hbl⟩
   replace HO3 := Aside0.mk (Kd.R_below HO3.out hbl)
   replace HO4 := Aside0.mk (Kd.R_below HO4.out hbl)
   replace HI := Aside0.mk (HI.out.below hbl)
   clear hbl hx0 hx1 hx2 hx3 hx4 hy0 hy1 hy2 hy3 hy4 hz0 hz1 hz2 hz3 hz4
   refine hK _ _ ?_
   clear hK K; have hx0 := HI.out.cell 0 (.bool d) rfl; have hx1 := HI.out.cell 1 (.int .i64 kd) rfl; have hx2 := HI.out.cell 2 (.string tn) rfl; have hx3 := HI.out.cell 3 (.slice A3 sc.length c3) rfl; have hx4 := HI.out.cell 4 (.slice A4 hd.length c4) rfl; have hy0 := HI.out.cellz 0 (.bool false) rfl; have hy1 := HI.out.cellz 1 (.int .i64 0) rfl; have hy2 := HI.out.cellz 2 (.string ⟨#[]⟩) rfl; have hy3 := HI.out.cellz 3 (.slice none 0 0) rfl; have hy4 := HI.out.cellz 4 (.slice none 0 0) rfl; have hz0 := HI.out.frozz 0; have hz1 := HI.out.frozz 1; have hz2 := HI.out.frozz 2
   have hz3 := HI.out.frozz 3; have hz4 := HI.out.frozz 4
   refine wpAny_take (i := 13) (v := ?_) rfl (by kernel_rfl) (by kernel_rfl) (by kernel_rfl) (fun _ _ _ h => h) (Or.inl ⟨by kernel_rfl, ?_⟩) ?_
   case refine_2 => intro w; go_simp; try with_reducible rfl
   refine wpAny_take (i := 14) (v := ?_) rfl (by kernel_rfl) (by kernel_rfl) (by kernel_rfl) (fun _ _ _ h => h) (Or.inl ⟨by kernel_rfl, ?_⟩) ?_
   case refine_2 => intro w; go_simp; try with_reducible rfl
   refine wpAny_ready (rs := [15]) (by kernel_rfl) (by simp) ?_
   refine AllReady.cons rfl (fun K hK => ?_) AllReady.nil
   go_simp
   refine hK _ _ ?_
   clear hK K
   refine wpAny_take (i := 16) (v := ?_) rfl (by kernel_rfl) (by kernel_rfl) (by kernel_rfl) (fun _ _ _ h => h) (Or.inl ⟨by kernel_rfl, ?_⟩) ?_
   case refine_2 => intro w; go_simp; try with_reducible rfl
   refine wpAny_done (by kernel_rfl) ?_ _
   refine NoPanic.normal ?_
   show Exit.then _ _ Exit.normal (Act.put _ (some 3) _) _
   simp only [Act.put, List.setIfInBounds_toArray, List.set_cons_zero, List.set_cons_succ]; go_wp2; have hdone := HI.out.done HO3.out HO4.out
   refine bodyPost_ret (results_ct (fn := Tryz.f42) rfl _ _ w.heap.size 46 _ (0, 0) _ rfl hdone.1 Tryz.underlying46 rfl (by kernel_rfl)) rfl ?_
   exact ⟨_, _, rfl, hdone.2.1, hdone.2.2.1, hdone.2.2.2⟩
  go_simp
  refine hK _ _ ?_
  clear hK K
  refine wpAny_take (i := 7) (v := ?_) rfl (by kernel_rfl) (by kernel_rfl) (by kernel_rfl) (fun _ _ _ h => h) (Or.inl ⟨by kernel_rfl, ?_⟩) ?_
  case refine_2 => intro w; go_simp; try with_reducible rfl
  refine wpAny_take (i := 8) (v := ?_) rfl (by kernel_rfl) (by kernel_rfl) (by kernel_rfl) (fun _ _ _ h => h) (Or.inl ⟨by kernel_rfl, ?_⟩) ?_
  case refine_2 => intro w; go_simp; try with_reducible rfl
  refine wpAny_take (i := 9) (v := ?_) rfl (by kernel_rfl) (by kernel_rfl) (by kernel_rfl) (fun _ _ _ h => h) (Or.inl ⟨by kernel_rfl, ?_⟩) ?_
  case refine_2 => intro w; go_simp; try with_reducible rfl
  refine wpAny_take (i := 12) (v := ?_) rfl (by kernel_rfl) (by kernel_rfl) (by kernel_rfl) (fun _ _ _ h => h) (Or.inl ⟨by kernel_rfl, ?_⟩) ?_
  case refine_2 => intro w; go_simp; try with_reducible rfl
  refine wpAny_ready (rs := [0, 10]) (by kernel_rfl) (by simp) ?_
  refine AllReady.cons rfl (fun K hK => ?_) (AllReady.cons rfl (fun K hK => ?_) AllReady.nil)
  ·
   go_simp
   refine hK _ _ ?_
   clear hK K
   refine wpAny_ready (rs := [10]) (by kernel_rfl) (by simp) ?_
   refine AllReady.cons rfl (fun K hK => ?_) AllReady.nil
   go_simp
   refine hK _ _ ?_
   clear hK K
   refine wpAny_ready (rs := [11]) (by kernel_rfl) (by simp) ?_
   refine AllReady.cons rfl (fun K hK => ?_) AllReady.nil
   go_simp
   refine (policy_line.calls k d kd tn A3 c3 sc A4 c4 hd t _ (Kd.R_reads' HO3.out).2.2 (Kd.R_reads' HO3.out).2.1 (Kd.R_reads' HO4.out).2.2 (Kd.R_reads' HO4.out).2.1 HT.out).mono ?_
   rintro e w14 ⟨rfl, hbl⟩
   replace HO3 := Aside0.mk (Kd.R_below HO3.out hbl)
   replace HO4 := Aside0.mk (Kd.R_below HO4.out hbl)
   replace HI := Aside0.mk (HI.out.below hbl)
   clear hbl hx0 hx1 hx2 hx3 hx4 hy0 hy1 hy2 hy3 hy4 hz0 hz1 hz2 hz3 hz4
   refine hK _ _ ?_
   clear hK K; have hx0 := HI.out.cell 0 (.bool d) rfl; have hx1 := HI.out.cell 1 (.int .i64 kd) rfl; have hx2 := HI.out.cell 2 (.string tn) rfl; have hx3 := HI.out.cell 3 (.slice A3 sc.length c3) rfl; have hx4 := HI.out.cell 4 (.slice A4 hd.length c4) rfl; have hy0 := HI.out.cellz 0 (.bool false) rfl; have hy1 := HI.out.cellz 1 (.int .i64 0) rfl; have hy2 := HI.out.cellz 2 (.string ⟨#[]⟩) rfl; have hy3 := HI.out.cellz 3 (.slice none 0 0) rfl; have hy4 := HI.out.cellz 4 (.slice none 0 0) rfl; have hz0 := HI.out.frozz 0; have hz1 := HI.out.frozz 1; have hz2 := HI.out.frozz 2
   have hz3 := HI.out.frozz 3; have hz4 := HI.out.frozz 4
   refine wpAny_take (i := 13) (v := ?_) rfl (by kernel_rfl) (by kernel_rfl) (by kernel_rfl) (fun _ _ _ h => h) (Or.inl ⟨by kernel_rfl, ?_⟩) ?_
   case refine_2 => intro w; go_simp; try with_reducible rfl
   refine wpAny_take (i := 14) (v := ?_) rfl (by kernel_rfl) (by kernel_rfl) (by kernel_rfl) (fun _ _ _ h => h) (Or.inl ⟨by kernel_rfl, ?_⟩) ?_
   case refine_2 => intro w; go_simp; try with_reducible rfl
   refine wpAny_ready (rs := [15]) (by kernel_rfl) (by simp) ?_
   refine AllReady.cons rfl (fun K hK => ?_) AllReady.nil
   go_simp
   refine hK _ _ ?_
   clear hK K
   refine wpAny_take (i := 16) (v := ?_) rfl (by kernel_rfl) (by kernel_rfl) (by kernel_rfl) (fun _ _ _ h => h) (Or.inl ⟨by kernel_rfl, ?_⟩) ?_
   case refine_2 => intro w; go_simp; try with_reducible rfl
   refine wpAny_done (by kernel_rfl) ?_ _
   refine NoPanic.normal ?_
   show Exit.then _ _ Exit.normal (Act.put _ (some 3) _) _
   simp only [Act.put, List.setIfInBounds_toArray, List.set_cons_zero, List.set_cons_succ]; go_wp2; have hdone := HI.out.done HO3.out HO4.out
   refine bodyPost_ret (results_ct (fn := Tryz.f42) rfl _ _ w.heap.size 46 _ (0, 0) _ rfl hdone.1 Tryz.underlying46 rfl (by kernel_rfl)) rfl ?_
   exact ⟨_, _, rfl, hdone.2.1, hdone.2.2.1, hdone.2.2.2⟩
  go_simp
  refine hK _ _ ?_
  clear hK K
  refine wpAny_ready (rs := [0, 11]) (by kernel_rfl) (by simp) ?_
  refine AllReady.cons rfl (fun K hK => ?_) (AllReady.cons rfl (fun K hK => ?_) AllReady.nil)
  rotate_left
  ·
   go_simp
   refine (policy_line.calls k d kd tn A3 c3 sc A4 c4 hd t _ (Kd.R_reads' HO3.out).2.2 (Kd.R_reads' HO3.out).2.1 (Kd.R_reads' HO4.out).2.2 (Kd.R_reads' HO4.out).2.1 HT.out).mono ?_
   rintro e w14 ⟨rfl, hbl⟩
   replace HO3 := Aside0.mk (Kd.R_below HO3.out hbl)
   replace HO4 := Aside0.mk (Kd.R_below HO4.out hbl)
   replace HI := Aside0.mk (HI.out.below hbl)
   clear hbl hx0 hx1 hx2 hx3 hx4 hy0 hy1 hy2 hy3 hy4 hz0 hz1 hz2 hz3 hz4
   refine hK _ _ ?_
   clear hK K; have hx0 := HI.out.cell 0 (.bool d) rfl; have hx1 := HI.out.cell 1 (.int .i64 kd) rfl; have hx2 := HI.out.cell 2 (.string tn) rfl; have hx3 := HI.out.cell 3 (.slice A3 sc.length c3) rfl; have hx4 := HI.out.cell 4 (.slice A4 hd.length c4) rfl; have hy0 := HI.out.cellz 0 (.bool false) rfl; have hy1 := HI.out.cellz 1 (.int .i64 0) rfl; have hy2 := HI.out.cellz 2 (.string ⟨#[]⟩) rfl; have hy3 := HI.out.cellz 3 (.slice none 0 0) rfl; have hy4 := HI.out.cellz 4 (.slice none 0 0) rfl; have hz0 := HI.out.frozz 0; have hz1 := HI.out.frozz 1; have hz2 := HI.out.frozz 2
   have hz3 := HI.out.frozz 3; have hz4 := HI.out.frozz 4
   refine wpAny_take (i := 13) (v := ?_) rfl (by kernel_rfl) (by kernel_rfl) (by kernel_rfl) (fun _ _ _ h => h) (Or.inl ⟨by kernel_rfl, ?_⟩) ?_
   case refine_2 => intro w; go_simp; try with_reducible rfl
   refine wpAny_take (i := 14) (v := ?_) rfl (by kernel_rfl) (by kernel_rfl) (by kernel_rfl) (fun _ _ _ h => h) (Or.inl ⟨by kernel_rfl, ?_⟩) ?_
   case refine_2 => intro w; go_simp; try with_reducible rfl
   refine wpAny_ready (rs := [0]) (by kernel_rfl) (by simp) ?_
   refine AllReady.cons rfl (fun K hK => ?_) AllReady.nil
   go_simp
   refine hK _ _ ?_
   clear hK K
   refine wpAny_ready (rs := [15]) (by kernel_rfl) (by simp) ?_
   refine AllReady.cons rfl (fun K hK => ?_) AllReady.nil
   go_simp
   refine hK _ _ ?_
   clear hK K
   refine wpAny_take (i := 16) (v := ?_) rfl (by kernel_rfl) (by kernel_rfl) (by kernel_rfl) (fun _ _ _ h => h) (Or.inl ⟨by kernel_rfl, ?_⟩) ?_
   case refine_2 => intro w; go_simp; try with_reducible rfl
   refine wpAny_done (by kernel_rfl) ?_ _
   refine NoPanic.normal ?_
   show Exit.then _ _ Exit.normal (Act.put _ (some 3) _) _
   simp only [Act.put, List.setIfInBounds_toArray, List.set_cons_zero, List.set_cons_succ]; go_wp2; have hdone := HI.out.done HO3.out HO4.out
   refine bodyPost_ret (results_ct (fn := Tryz.f42) rfl _ _ w.heap.size 46 _ (0, 0) _ rfl hdone.1 Tryz.underlying46 rfl (by kernel_rfl)) rfl ?_
   exact ⟨_, _, rfl, hdone.2.1, hdone.2.2.1, hdone.2.2.2⟩
  go_simp
  refine hK _ _ ?_
  clear hK K
  refine wpAny_ready (rs := [11]) (by kernel_rfl) (by simp) ?_
  refine AllReady.cons rfl (fun K hK => ?_) AllReady.nil
  go_simp
  refine (policy_line.calls k d kd tn A3 c3 sc A4 c4 hd t _ (Kd.R_reads' HO3.out).2.2 (Kd.R_reads' HO3.out).2.1 (Kd.R_reads' HO4.out).2.2 (Kd.R_reads' HO4.out).2.1 HT.out).mono ?_
  rintro e w14 ⟨rfl, hbl⟩
  replace HO3 := Aside0.mk (Kd.R_below HO3.out hbl)
  replace HO4 := Aside0.mk (Kd.R_below HO4.out hbl)
  replace HI := Aside0.mk (HI.out.below hbl)
  clear hbl hx0 hx1 hx2 hx3 hx4 hy0 hy1 hy2 hy3 hy4 hz0 hz1 hz2 hz3 hz4
  refine hK _ _ ?_
  clear hK K; have hx0 := HI.out.cell 0 (.bool d) rfl; have hx1 := HI.out.cell 1 (.int .i64 kd) rfl; have hx2 := HI.out.cell 2 (.string tn) rfl; have hx3 := HI.out.cell 3 (.slice A3 sc.length c3) rfl; have hx4 := HI.out.cell 4 (.slice A4 hd.length c4) rfl; have hy0 := HI.out.cellz 0 (.bool false) rfl; have hy1 := HI.out.cellz 1 (.int .i64 0) rfl; have hy2 := HI.out.cellz 2 (.string ⟨#[]⟩) rfl; have hy3 := HI.out.cellz 3 (.slice none 0 0) rfl; have hy4 := HI.out.cellz 4 (.slice none 0 0) rfl; have hz0 := HI.out.frozz 0; have hz1 := HI.out.frozz 1; have hz2 := HI.out.frozz 2
  have hz3 := HI.out.frozz 3; have hz4 := HI.out.frozz 4
  refine wpAny_take (i := 13) (v := ?_) rfl (by kernel_rfl) (by kernel_rfl) (by kernel_rfl) (fun _ _ _ h => h) (Or.inl ⟨by kernel_rfl, ?_⟩) ?_
  case refine_2 => intro w; go_simp; try with_reducible rfl
  refine wpAny_take (i := 14) (v := ?_) rfl (by kernel_rfl) (by kernel_rfl) (by kernel_rfl) (fun _ _ _ h => h) (Or.inl ⟨by kernel_rfl, ?_⟩) ?_
  case refine_2 => intro w; go_simp; try with_reducible rfl
  refine wpAny_ready (rs := [15]) (by kernel_rfl) (by simp) ?_
  refine AllReady.cons rfl (fun K hK => ?_) AllReady.nil
  go_simp
  refine hK _ _ ?_
  clear hK K
  refine wpAny_take (i := 16) (v := ?_) rfl (by kernel_rfl) (by kernel_rfl) (by kernel_rfl) (fun _ _ _ h => h) (Or.inl ⟨by kernel_rfl, ?_⟩) ?_
  case refine_2 => intro w; go_simp; try with_reducible rfl
  refine wpAny_done (by kernel_rfl) ?_ _
  refine NoPanic.normal ?_
  show Exit.then _ _ Exit.normal (Act.put _ (some 3) _) _
  simp only [Act.put, List.setIfInBounds_toArray, List.set_cons_zero, List.set_cons_succ]; go_wp2; have hdone := HI.out.done HO3.out HO4.out
  refine bodyPost_ret (results_ct (fn := Tryz.f42) rfl _ _ w.heap.size 46 _ (0, 0) _ rfl hdone.1 Tryz.underlying46 rfl (by kernel_rfl)) rfl ?_
  exact ⟨_, _, rfl, hdone.2.1, hdone.2.2.1, hdone.2.2.2⟩
end Go.Proofs.YtkedidjjhhjdbaaGreatDoor.Pr
