import Derived.Test.YtefeibndnghejaaGreatDoorJn7
import Derived.Test.YtefeibndnghejaaGreatDoorJn5
import Derived.Laws.CopyRow
import Derived.Laws.IdiomStrings
import Derived.Deep.OwnRows
import Derived.Deep.CutBlock
set_option linter.unusedVariables false
set_option linter.unusedSimpArgs false
namespace Go.Proofs.YtefeibndnghejaaGreatDoor.Pr
open Go.RowKit Go.Proofs.YtefeibndnghejaaGreatDoorW.PrintWords Go.Proofs.YtefeibndnghejaaGreatDoorW.PrintLast Go.Proofs.YtefeibndnghejaaGreatDoorW.PrintMore
def bsr_Replace.T9 : Bool × List (List Nat × List Nat) := (true, [([], []), ([], []), ([], []), ([], []), ([3], [3]), ([2], [2]), ([5], [5]), ([6, 4], [4, 6]), ([7], [7]), ([8], [8]), ([9], [9]), ([1, 10], [1, 10]), ([0, 11], [0, 11]), ([12, 0, 1, 2, 3, 4, 5, 6, 7, 8, 9, 10, 11, 12], [0, 12])])
def bsr_Replace.B9 : List Nat := [0, 0, 0, 0, 8, 4, 36, 124, 252, 508, 1020, 2046, 4095, 8191]
set_option maxRecDepth 100000 in
theorem bsr_Replace.tab9 : rtab .any (opsOf Tryz.f232 9) = bsr_Replace.T9 := by kernel_rfl
set_option maxRecDepth 100000 in
theorem bsr_Replace.bits9 : waitsOk bsr_Replace.T9.2 bsr_Replace.B9 = true := by kernel_rfl
def bsr_Replace.T28 : Bool × List (List Nat × List Nat) := (true, [([], []), ([], []), ([], []), ([1, 2], [1, 2]), ([], []), ([], []), ([4], [4]), ([6], [6]), ([7, 5], [5, 7]), ([8], [8]), ([3, 9], [3, 9]), ([0, 10], [0, 10]), ([11, 10, 0, 1, 2, 3, 4, 5, 6, 7, 8, 9, 10, 11], [0, 2, 11])])
def bsr_Replace.B28 : List Nat := [0, 0, 0, 6, 0, 0, 16, 80, 240, 496, 1022, 2047, 4095]
set_option maxRecDepth 100000 in
theorem bsr_Replace.tab28 : rtab .any (opsOf Tryz.f232 28) = bsr_Replace.T28 := by kernel_rfl
set_option maxRecDepth 100000 in
theorem bsr_Replace.bits28 : waitsOk bsr_Replace.T28.2 bsr_Replace.B28 = true := by kernel_rfl
def esc (b : UInt8) : List UInt8 := if b = 10 then [92, 110] else if b = 92 then [92, 92] else if b = 34 then [92, 34] else [b]
def escL (l : List UInt8) : List UInt8 := l.flatMap esc
def special (b : UInt8) : Bool := b == 10 || b == 92 || b == 34
def specN (l : List UInt8) : Nat := l.countP special
theorem esc_len (b : UInt8) : (esc b).length = 1 + (if special b = true then 1 else 0) := by
 unfold esc special
 by_cases h1 : b = 10
 ·
  subst h1; rfl
 ·
  by_cases h2 : b = 92
  ·
   subst h2; rfl
  ·
   by_cases h3 : b = 34
   ·
    subst h3; rfl
   ·
    simp [h1, h2, h3]
theorem escL_len : ∀ l : List UInt8, (escL l).length = l.length + specN l
 | [] => rfl
 | b :: l => by
  have ih := escL_len l
  unfold escL specN at *
  rw [List.flatMap_cons, List.length_append, ih, esc_len, List.countP_cons, List.length_cons]
  split <;> omega
theorem escL_none : ∀ l : List UInt8, specN l = 0 → escL l = l
 | [], _ => rfl
 | b :: l, h => by
  unfold specN at h
  rw [List.countP_cons] at h
  have ih := escL_none l (by unfold specN; omega)
  have hb : special b = false := by
   cases hs : special b with
   | false => rfl
   | true => rw [hs] at h; simp at h
  have he : esc b = [b] := by
   unfold special at hb
   simp only [Bool.or_eq_false_iff, beq_eq_false_iff_ne] at hb
   unfold esc
   rw [if_neg hb.1.1, if_neg hb.1.2, if_neg hb.2]
  unfold escL at *
  rw [List.flatMap_cons, ih, he]
  rfl
theorem specN_counts : ∀ l : List UInt8, specN l = l.count 10 + l.count 92 + l.count 34
 | [] => rfl
 | b :: l => by
  have ih := specN_counts l
  unfold specN at *
  rw [List.countP_cons, List.count_cons, List.count_cons, List.count_cons, ih]
  unfold special
  by_cases h1 : b = 10
  ·
   subst h1; simp; omega
  ·
   by_cases h2 : b = 92
   ·
    subst h2; simp; omega
   ·
    by_cases h3 : b = 34
    ·
     subst h3; simp; omega
    ·
     simp [h1, h2, h3]
theorem escL_snoc (l : List UInt8) (b : UInt8) : escL (l ++ [b]) = escL l ++ esc b := by simp [escL]
theorem specN_snoc (l : List UInt8) (b : UInt8) : specN (l ++ [b]) = specN l + (if special b = true then 1 else 0) := by simp [specN, List.countP_append]
def cntI (l : List UInt8) : Nat → Nat
  | 0 => 0
  | 1 => l.count 10
  | 2 => l.count 10 + l.count 92
  | _ => l.count 10 + l.count 92 + l.count 34
theorem cnt_le (l : List UInt8) (i : Nat) : cntI l i ≤ l.length := by
 have h := specN_counts l
 have h2 : specN l ≤ l.length := List.countP_le_length
 match i with
 | 0 => exact Nat.zero_le _
 | 1 => show l.count 10 ≤ _; omega
 | 2 => show l.count 10 + l.count 92 ≤ _; omega
 | (n + 3) => show l.count 10 + l.count 92 + l.count 34 ≤ _; omega
theorem take_b (s : ByteArray) (i : Nat) (hi : i < s.size) : s.data.toList.take (i + 1) = s.data.toList.take i ++ [s[i]'hi] := by
 have h : i < s.data.toList.length := by simpa using hi
 rw [List.take_succ_eq_append_getElem h]
 rfl
theorem w_add (a c q : Nat) (h : a + c + q ≤ 4611686018427387904) : Go.RowKit.wrap64 ((a : Int) + (c : Int) + Go.RowKit.wrap64 ((q : Int) * Go.RowKit.wrap64 1)) = ((a + (c + q) : Nat) : Int) := by
 rw [IntWalk.wrap64_in 1 (by omega), Int.mul_one, IntWalk.wrap64_in (q : Int) (by omega), IntWalk.wrap64_in _ (by omega)]
 omega
theorem w_add1 (a c : Nat) (h : a + c + 1 ≤ 4611686018427387904) : Go.RowKit.wrap64 ((a : Int) + (c : Int) + 1) = ((a + (c + 1) : Nat) : Int) := by
 rw [IntWalk.wrap64_in _ (by omega)]
 omega
def bvs (l : List UInt8) : List Value := l.map fun b => .int .u8 (b.toNat : Int)
theorem mc_list (z : Value) (n : Nat) : (madeCells #[z] n).toList = List.replicate n z := by
 unfold madeCells
 apply List.ext_getElem
 ·
  simp
 ·
  intro i h1 h2
  simp
  rw [Nat.mod_one]
  rfl
theorem row_copy (A cs : List Value) (z : Value) (N : Nat) (h : A.length + cs.length ≤ N) :
  (A ++ List.replicate (N - A.length) z).take A.length ++ cs ++ (A ++ List.replicate (N - A.length) z).drop (A.length + cs.length) = (A ++ cs) ++ List.replicate (N - (A ++ cs).length) z := by
 rw [List.take_left, List.drop_append, List.drop_eq_nil_of_le (by omega), List.nil_append, List.drop_replicate, List.length_append]
 congr 2
 omega
theorem row_put (A : List Value) (v z : Value) (N : Nat) (h : A.length + 1 ≤ N) :
  (A ++ List.replicate (N - A.length) z).set A.length v = (A ++ [v]) ++ List.replicate (N - (A ++ [v]).length) z := by
 rw [List.set_append_right _ _ (Nat.le_refl _), Nat.sub_self, show N - A.length = (N - (A ++ [v]).length) + 1 by rw [List.length_append, List.length_singleton]; omega, List.replicate_succ, List.set_cons_zero, List.append_assoc]
 rfl
theorem two_src {W : World} {g : Nat} {v0 v1 : Value} (h0 : W.cell? ⟨g, 0, none⟩ = some v0) (h1 : W.cell? ⟨g, 1, none⟩ = some v1) : ∀ j v, [v0, v1][j]? = some v → W.cell? ((⟨g, 0, none⟩ : Addr).add j) = some v := by
 intro j v hj
 match j with
 | 0 => simp at hj; subst hj; exact h0
 | 1 => simp at hj; subst hj; exact h1
 | (n + 2) => simp at hj
theorem bvs_escL_take (s : ByteArray) (i : Nat) (hi : i < s.size) : bvs (escL (s.data.toList.take (i + 1))) = bvs (escL (s.data.toList.take i)) ++ bvs (esc (s[i]'hi)) := by
 rw [take_b s i hi, escL_snoc]
 exact List.map_append
theorem escL_le (s : ByteArray) (i : Nat) : (escL (s.data.toList.take i)).length ≤ (escL s.data.toList).length := by
 conv => rhs; rw [← List.take_append_drop i s.data.toList]
 unfold escL
 rw [List.flatMap_append, List.length_append]
 omega
theorem bvs_len (l : List UInt8) : (bvs l).length = l.length := List.length_map ..
theorem special_two {b : UInt8} {T : Nat} {w : World} {ch : Array Value} (h : special b = true) (a : two T w 110 ch[10]?) (c : two T w 92 ch[92]?) (d : two T w 34 ch[34]?) :
  ∃ k : UInt8, esc b = [92, k] ∧ two T w k.toNat ch[b.toNat]? := by
 unfold special at h
 simp only [Bool.or_eq_true, beq_iff_eq] at h
 rcases h with (rfl | rfl) | rfl
 ·
  exact ⟨110, rfl, a⟩
 ·
  exact ⟨92, rfl, c⟩
 ·
  exact ⟨34, rfl, d⟩
theorem plain_esc {b : UInt8} (h : special b = false) : esc b = [b] ∧ b.toNat ≠ 10 ∧ b.toNat ≠ 92 ∧ b.toNat ≠ 34 := by
 unfold special at h
 simp only [Bool.or_eq_false_iff, beq_eq_false_iff_ne] at h
 obtain ⟨⟨a, c⟩, d⟩ := h
 refine ⟨by unfold esc; rw [if_neg a, if_neg c, if_neg d], fun e => a (UInt8.toNat_inj.1 e), fun e => c (UInt8.toNat_inj.1 e), fun e => d (UInt8.toNat_inj.1 e)⟩
set_option maxRecDepth 1000000 in
set_option maxHeartbeats 8000000 in
theorem bsr_any (T : Nat) (s : ByteArray) (w : World) (hW : Ws T w) (hs : s.size < 140737488355312) :
  Calls Tryz.prog 232 #[.pointer (some ⟨T + 1, 0, none⟩), .string s] w fun e w' => e = .returned (.string ⟨(escL s.data.toList).toArray⟩) ∧ Below w.heap.size w w' := by
 obtain ⟨ch, e, lt, a, b, c, d, f, t⟩ := hW
 have d1 : w.cell? ⟨T + 1, 256, none⟩ = some (.slice (some ⟨T, 0, none⟩) 3 3) := (blk_cell e 256).trans d
 have HTC : Aside0 (∀ n, (w.drewN n).heap[T + 1]? = some (.cells ch 228 (0, 0)) ∧ (w.drewN n).heap[T]? = some (.cells #[.string ⟨#[10]⟩, .string ⟨#[92]⟩, .string ⟨#[34]⟩] 9 (0, 0))) := ⟨fun n => ⟨e, t⟩⟩
 have HWS : Aside0 (two T w 110 ch[10]? ∧ two T w 92 ch[92]? ∧ two T w 34 ch[34]?) := ⟨a, b, c⟩
 have HFF : Aside0 (∀ i, i < 256 → i ≠ 10 → i ≠ 92 → i ≠ 34 → ch[i]? = some (.slice none 0 0)) := ⟨f⟩
 have HD : Aside0 (ch[256]? = some (.slice (some ⟨T, 0, none⟩) 3 3)) := ⟨d⟩
 have HSP : Aside0 (∀ x : UInt8, special x = true → ∃ k : UInt8, esc x = [92, k] ∧ two T w k.toNat ch[x.toNat]?) := ⟨fun x hx => special_two hx a b c⟩
 have HNS : Aside0 (∀ x : UInt8, special x = false → ch[x.toNat]? = some (.slice none 0 0)) := ⟨fun x hx => by
  obtain ⟨_, h1, h2, h3⟩ := plain_esc hx
  exact f _ (UInt8.toNat_lt _) h1 h2 h3⟩
 have hnot : ∀ (x : Bool) (w : World), (Op.unary .not (.bool x)).run Tryz.prog w = .ok (.bool (!x)) w := fun _ _ => rfl
 clear e a b c d f t
 go_enter Tryz.func232, Tryz.ntmps232
 go_upto_if 26 with (fail)
 go_cut [5, 6, 8, 9, 10, 11, 27, 28, 29, 30, 31, 32, 33, 34, 35, 36, 37, 38, 39, 40, 41, 42, 43, 44, 45, 46, 47, 48, 49, 50, 51, 52, 53, 54, 55, 56, 57, 58, 59, 60, 61, 62, 63, 64, 65, 66, 67, 68, 69, 70, 71, 72, 73, 74, 75, 76, 77, 78, 79, 80] (fun v5 v6 _ _ _ _ _ _ _ _ _ _ _ _ _ _ _ _ _ _ _ _ _ _ _ _ _ _ _ _ _ _ _ _ _ _ _ _ _ _ _ _ _ _ _ _ _ _ _ _ _ _ _ _ _ _ _ _ _ _ wc => v5 = .int .i64 ((s.size + specN s.data.toList : Nat) : Int) ∧ v6 = .bool (decide (0 < specN s.data.toList)) ∧ ∃ n, wc = w.drewN n)
 case first =>
  by_cases h24 : (24 : Int) ≤ (s.size : Int)
  ·
   have b0 : decide ((24 : Int) ≤ (s.size : Int)) = true := decide_eq_true h24
   have b1 : decide (24 ≤ s.size) = true := decide_eq_true (by omega)
   go_wp2
   go_loopw [5, 6, 32] (fun v5 v6 v32 ws => ∃ i : Nat, i ≤ 3 ∧ v32 = .int .i64 i ∧ v5 = .int .i64 ((s.size + cntI s.data.toList i : Nat) : Int) ∧ v6 = .bool (decide (0 < cntI s.data.toList i)) ∧ ∃ n, ws = w.drewN n) (fun _ _ v32 _ => 3 - (intOf v32).toNat)
   case atStart => exact ⟨0, by omega, rfl, by rfl, by rfl, 0, rfl⟩
   case round =>
    obtain ⟨i, hi, rfl, rfl, rfl, n, rfl⟩ := hrel
    have hle := cnt_le s.data.toList
    have hsz : s.data.toList.length = s.size := Array.length_toList
    rcases (show i = 0 ∨ i = 1 ∨ i = 2 ∨ i = 3 by omega) with rfl | rfl | rfl | rfl
    ·
     have hx : (w.drewN n).cell? ⟨T, 0, none⟩ = some (.string ⟨#[10]⟩) := (blk_cell (HTC.out n).2 0).trans rfl
     have h1 := hle 1
     have hb0 : ((⟨#[10]⟩ : ByteArray)[0]'(by decide)).toNat = 10 := rfl
     obtain ⟨gx, cx, hch, _⟩ := HWS.out.1
     go_wp2_with fail
     refine (Tryz.strings_Count_one s 10 _).mono ?_
     rintro e w1 ⟨rfl, rfl⟩
     have hcn : Lib.countByte s.data.toList 10 = s.data.toList.count 10 := rfl
     rw [hcn]
     have hcc : cntI s.data.toList 1 = cntI s.data.toList 0 + s.data.toList.count 10 := by simp [cntI]
     rw [hcc] at h1
     generalize s.data.toList.count 10 = q at hcc h1 hcn ⊢
     by_cases hz : q = 0
     ·
      subst hz
      go_wp2
      go_roundw
      case rel =>
       repeat apply Exists.intro
       refine ⟨⟨1, by omega, rfl, ?_, ?_, n, rfl⟩, ?_⟩
       rotate_left 2
       ·
        rw [b0]; rfl
       ·
        rw [hcc]; rfl
       ·
        rw [hcc]; rfl
      case measure => simp [intOf]
     ·
      have hz1 : decide ((q : Int) ≠ 0) = true := decide_eq_true (by omega)
      have hz2 : ((q : Int) != 0) = true := by simp; omega
      go_upto_region 9 with (fail)
      refine start_ (n := 14) (S := fun w' => ∃ n, w' = w.drewN n) (ds := []) #[false, false, false, false, false, false, false, false, false, false, false, false, false, false] (by kernel_rfl) rfl rfl ⟨n + 1, rfl⟩ (fun hHeld => ?_)
      refine with_tabW bsr_Replace.tab9 bsr_Replace.bits9 (fun HT_ HW_ => ?_)
      generalize (w.drewN n).drew = W0 at hHeld ⊢
      refine pure_ (i := 0) (N := some 41) (v := ?_) (a' := ?_) #[true, false, false, false, false, false, false, false, false, false, false, false, false, false] rfl rfl (any_of HT_.out (by kernel_rfl)) (fun _ _ _ h => h) (Or.inl ⟨by rfl, ?_⟩) ?_ ?_
      rotate_left
      ·
       intro w'
       go_simp
       with_reducible rfl
      rotate_left
      ·
       simp only [Act.put, List.setIfInBounds_toArray, List.set_cons_zero, List.set_cons_succ, i64_w, i32_w]
       rfl
      refine pure_ (i := 1) (N := some 42) (v := ?_) (a' := ?_) #[true, true, false, false, false, false, false, false, false, false, false, false, false, false] rfl rfl (any_of HT_.out (by kernel_rfl)) (fun _ _ _ h => h) (Or.inl ⟨by rfl, ?_⟩) ?_ ?_
      rotate_left
      ·
       intro w'
       go_simp
       with_reducible rfl
      rotate_left
      ·
       simp only [Act.put, List.setIfInBounds_toArray, List.set_cons_zero, List.set_cons_succ, i64_w, i32_w]
       rfl
      refine pure_ (i := 2) (N := some 43) (v := ?_) (a' := ?_) #[true, true, true, false, false, false, false, false, false, false, false, false, false, false] rfl rfl (any_of HT_.out (by kernel_rfl)) (fun _ _ _ h => h) (Or.inl ⟨by rfl, ?_⟩) ?_ ?_
      rotate_left
      ·
       intro w'
       go_simp
       with_reducible rfl
      rotate_left
      ·
       simp only [Act.put, List.setIfInBounds_toArray, List.set_cons_zero, List.set_cons_succ, i64_w, i32_w]
       rfl
      refine pure_ (i := 3) (N := some 44) (v := ?_) (a' := ?_) #[true, true, true, true, false, false, false, false, false, false, false, false, false, false] rfl rfl (any_of HT_.out (by kernel_rfl)) (fun _ _ _ h => h) (Or.inl ⟨by rfl, ?_⟩) ?_ ?_
      rotate_left
      ·
       intro w'
       go_simp
       with_reducible rfl
      rotate_left
      ·
       simp only [Act.put, List.setIfInBounds_toArray, List.set_cons_zero, List.set_cons_succ, i64_w, i32_w]
       rfl
      refine pure_ (i := 4) (N := some 45) (v := ?_) (a' := ?_) #[true, true, true, true, true, false, false, false, false, false, false, false, false, false] rfl rfl (any_of HT_.out (by kernel_rfl)) (fun _ _ _ h => h) (Or.inl ⟨by rfl, ?_⟩) ?_ ?_
      rotate_left
      ·
       intro w'
       go_simp
       with_reducible rfl
      rotate_left
      ·
       simp only [Act.put, List.setIfInBounds_toArray, List.set_cons_zero, List.set_cons_succ, i64_w, i32_w]
       rfl
      refine pure_ (i := 5) (N := some 46) (v := ?_) (a' := ?_) #[true, true, true, true, true, true, false, false, false, false, false, false, false, false] rfl rfl (any_of HT_.out (by kernel_rfl)) (fun _ _ _ h => h) (Or.inl ⟨by rfl, ?_⟩) ?_ ?_
      rotate_left
      ·
       intro w'
       go_simp
       with_reducible rfl
      rotate_left
      ·
       simp only [Act.put, List.setIfInBounds_toArray, List.set_cons_zero, List.set_cons_succ, i64_w, i32_w]
       rfl
      refine pure_ (i := 6) (N := some 47) (v := ?_) (a' := ?_) #[true, true, true, true, true, true, true, false, false, false, false, false, false, false] rfl rfl (any_of HT_.out (by kernel_rfl)) (fun _ _ _ h => h) (Or.inl ⟨by rfl, ?_⟩) ?_ ?_
      rotate_left
      ·
       intro w'
       go_simp
       with_reducible rfl
      rotate_left
      ·
       simp only [Act.put, List.setIfInBounds_toArray, List.set_cons_zero, List.set_cons_succ, i64_w, i32_w]
       rfl
      refine pure_ (i := 7) (N := some 48) (v := ?_) (a' := ?_) #[true, true, true, true, true, true, true, true, false, false, false, false, false, false] rfl rfl (any_of HT_.out (by kernel_rfl)) (fun _ _ _ h => h) (Or.inl ⟨by rfl, ?_⟩) ?_ ?_
      rotate_left
      ·
       intro w'
       go_simp
       with_reducible rfl
      rotate_left
      ·
       simp only [Act.put, List.setIfInBounds_toArray, List.set_cons_zero, List.set_cons_succ, i64_w, i32_w]
       rfl
      refine take_ (i := 8) (N := some 49) (v := ?_) (a' := ?_) #[true, true, true, true, true, true, true, true, true, false, false, false, false, false] rfl rfl (take_ofW HT_.out HW_.out (by kernel_rfl)) (fun _ _ _ h => h) (Or.inl ⟨by rfl, ?_⟩) hHeld ?_ ?_
      rotate_left
      ·
       rintro w' ⟨m, rfl⟩
       have y := (blk_cell (HTC.out m).1 10).trans hch
       go_simp
       with_reducible rfl
      rotate_left
      ·
       simp only [Act.put, List.setIfInBounds_toArray, List.set_cons_zero, List.set_cons_succ, i64_w, i32_w]
       rfl
      refine pure_ (i := 9) (N := some 50) (v := ?_) (a' := ?_) #[true, true, true, true, true, true, true, true, true, true, false, false, false, false] rfl rfl (any_of HT_.out (by kernel_rfl)) (fun _ _ _ h => h) (Or.inl ⟨by rfl, ?_⟩) ?_ ?_
      rotate_left
      ·
       intro w'
       go_simp
       with_reducible rfl
      rotate_left
      ·
       simp only [Act.put, List.setIfInBounds_toArray, List.set_cons_zero, List.set_cons_succ, i64_w, i32_w]
       rfl
      refine pure_ (i := 10) (N := some 51) (v := ?_) (a' := ?_) #[true, true, true, true, true, true, true, true, true, true, true, false, false, false] rfl rfl (any_of HT_.out (by kernel_rfl)) (fun _ _ _ h => h) (Or.inl ⟨by rfl, ?_⟩) ?_ ?_
      rotate_left
      ·
       intro w'
       go_simp
       with_reducible rfl
      rotate_left
      ·
       simp only [Act.put, List.setIfInBounds_toArray, List.set_cons_zero, List.set_cons_succ, i64_w, i32_w]
       rfl
      refine pure_ (i := 11) (N := some 52) (v := ?_) (a' := ?_) #[true, true, true, true, true, true, true, true, true, true, true, true, false, false] rfl rfl (any_of HT_.out (by kernel_rfl)) (fun _ _ _ h => h) (Or.inl ⟨by rfl, ?_⟩) ?_ ?_
      rotate_left
      ·
       intro w'
       go_simp
       with_reducible rfl
      rotate_left
      ·
       simp only [Act.put, List.setIfInBounds_toArray, List.set_cons_zero, List.set_cons_succ, i64_w, i32_w]
       rfl
      refine pure_ (i := 12) (N := some 53) (v := ?_) (a' := ?_) #[true, true, true, true, true, true, true, true, true, true, true, true, true, false] rfl rfl (any_of HT_.out (by kernel_rfl)) (fun _ _ _ h => h) (Or.inl ⟨by rfl, ?_⟩) ?_ ?_
      rotate_left
      ·
       intro w'
       go_simp
       with_reducible rfl
      rotate_left
      ·
       simp only [Act.put, List.setIfInBounds_toArray, List.set_cons_zero, List.set_cons_succ, i64_w, i32_w]
       rfl
      refine pure_ (i := 13) (N := some 5) (v := ?_) (a' := ?_) #[true, true, true, true, true, true, true, true, true, true, true, true, true, true] rfl rfl (any_of HT_.out (by kernel_rfl)) (fun _ _ _ h => h) (Or.inl ⟨by rfl, ?_⟩) ?_ ?_
      rotate_left
      ·
       intro w'
       go_simp
       with_reducible rfl
      rotate_left
      ·
       simp only [Act.put, List.setIfInBounds_toArray, List.set_cons_zero, List.set_cons_succ, i64_w, i32_w]
       rfl
      refine done_ (done_of HT_.out (by kernel_rfl)) ?_
      obtain ⟨m, rfl⟩ := hHeld
      go_wp2
      go_roundw
      case rel =>
       repeat apply Exists.intro
       refine ⟨⟨1, by omega, rfl, ?_, ?_, m, rfl⟩, ?_⟩
       rotate_left 2
       ·
        rw [b0]; rfl
       ·
        rw [hcc]
        exact congrArg (Value.int IntKind.i64) (w_add s.size (cntI s.data.toList 0) q (by omega))
       ·
        rw [hcc, decide_eq_true (show 0 < cntI s.data.toList 0 + q by omega)]
      case measure => simp [intOf]
    ·
     have hx : (w.drewN n).cell? ⟨T, 1, none⟩ = some (.string ⟨#[92]⟩) := (blk_cell (HTC.out n).2 1).trans rfl
     have h1 := hle 2
     have hb0 : ((⟨#[92]⟩ : ByteArray)[0]'(by decide)).toNat = 92 := rfl
     obtain ⟨gx, cx, hch, _⟩ := HWS.out.2.1
     go_wp2_with fail
     refine (Tryz.strings_Count_one s 92 _).mono ?_
     rintro e w1 ⟨rfl, rfl⟩
     have hcn : Lib.countByte s.data.toList 92 = s.data.toList.count 92 := rfl
     rw [hcn]
     have hcc : cntI s.data.toList 2 = cntI s.data.toList 1 + s.data.toList.count 92 := by simp [cntI]
     rw [hcc] at h1
     generalize s.data.toList.count 92 = q at hcc h1 hcn ⊢
     by_cases hz : q = 0
     ·
      subst hz
      go_wp2
      go_roundw
      case rel =>
       repeat apply Exists.intro
       refine ⟨⟨2, by omega, rfl, ?_, ?_, n, rfl⟩, ?_⟩
       rotate_left 2
       ·
        rw [b0]; rfl
       ·
        rw [hcc]; rfl
       ·
        rw [hcc]; rfl
      case measure => simp [intOf]
     ·
      have hz1 : decide ((q : Int) ≠ 0) = true := decide_eq_true (by omega)
      have hz2 : ((q : Int) != 0) = true := by simp; omega
      go_upto_region 9 with (fail)
      refine start_ (n := 14) (S := fun w' => ∃ n, w' = w.drewN n) (ds := []) #[false, false, false, false, false, false, false, false, false, false, false, false, false, false] (by kernel_rfl) rfl rfl ⟨n + 1, rfl⟩ (fun hHeld => ?_)
      refine with_tabW bsr_Replace.tab9 bsr_Replace.bits9 (fun HT_ HW_ => ?_)
      generalize (w.drewN n).drew = W0 at hHeld ⊢
      refine pure_ (i := 0) (N := some 41) (v := ?_) (a' := ?_) #[true, false, false, false, false, false, false, false, false, false, false, false, false, false] rfl rfl (any_of HT_.out (by kernel_rfl)) (fun _ _ _ h => h) (Or.inl ⟨by rfl, ?_⟩) ?_ ?_
      rotate_left
      ·
       intro w'
       go_simp
       with_reducible rfl
      rotate_left
      ·
       simp only [Act.put, List.setIfInBounds_toArray, List.set_cons_zero, List.set_cons_succ, i64_w, i32_w]
       rfl
      refine pure_ (i := 1) (N := some 42) (v := ?_) (a' := ?_) #[true, true, false, false, false, false, false, false, false, false, false, false, false, false] rfl rfl (any_of HT_.out (by kernel_rfl)) (fun _ _ _ h => h) (Or.inl ⟨by rfl, ?_⟩) ?_ ?_
      rotate_left
      ·
       intro w'
       go_simp
       with_reducible rfl
      rotate_left
      ·
       simp only [Act.put, List.setIfInBounds_toArray, List.set_cons_zero, List.set_cons_succ, i64_w, i32_w]
       rfl
      refine pure_ (i := 2) (N := some 43) (v := ?_) (a' := ?_) #[true, true, true, false, false, false, false, false, false, false, false, false, false, false] rfl rfl (any_of HT_.out (by kernel_rfl)) (fun _ _ _ h => h) (Or.inl ⟨by rfl, ?_⟩) ?_ ?_
      rotate_left
      ·
       intro w'
       go_simp
       with_reducible rfl
      rotate_left
      ·
       simp only [Act.put, List.setIfInBounds_toArray, List.set_cons_zero, List.set_cons_succ, i64_w, i32_w]
       rfl
      refine pure_ (i := 3) (N := some 44) (v := ?_) (a' := ?_) #[true, true, true, true, false, false, false, false, false, false, false, false, false, false] rfl rfl (any_of HT_.out (by kernel_rfl)) (fun _ _ _ h => h) (Or.inl ⟨by rfl, ?_⟩) ?_ ?_
      rotate_left
      ·
       intro w'
       go_simp
       with_reducible rfl
      rotate_left
      ·
       simp only [Act.put, List.setIfInBounds_toArray, List.set_cons_zero, List.set_cons_succ, i64_w, i32_w]
       rfl
      refine pure_ (i := 4) (N := some 45) (v := ?_) (a' := ?_) #[true, true, true, true, true, false, false, false, false, false, false, false, false, false] rfl rfl (any_of HT_.out (by kernel_rfl)) (fun _ _ _ h => h) (Or.inl ⟨by rfl, ?_⟩) ?_ ?_
      rotate_left
      ·
       intro w'
       go_simp
       with_reducible rfl
      rotate_left
      ·
       simp only [Act.put, List.setIfInBounds_toArray, List.set_cons_zero, List.set_cons_succ, i64_w, i32_w]
       rfl
      refine pure_ (i := 5) (N := some 46) (v := ?_) (a' := ?_) #[true, true, true, true, true, true, false, false, false, false, false, false, false, false] rfl rfl (any_of HT_.out (by kernel_rfl)) (fun _ _ _ h => h) (Or.inl ⟨by rfl, ?_⟩) ?_ ?_
      rotate_left
      ·
       intro w'
       go_simp
       with_reducible rfl
      rotate_left
      ·
       simp only [Act.put, List.setIfInBounds_toArray, List.set_cons_zero, List.set_cons_succ, i64_w, i32_w]
       rfl
      refine pure_ (i := 6) (N := some 47) (v := ?_) (a' := ?_) #[true, true, true, true, true, true, true, false, false, false, false, false, false, false] rfl rfl (any_of HT_.out (by kernel_rfl)) (fun _ _ _ h => h) (Or.inl ⟨by rfl, ?_⟩) ?_ ?_
      rotate_left
      ·
       intro w'
       go_simp
       with_reducible rfl
      rotate_left
      ·
       simp only [Act.put, List.setIfInBounds_toArray, List.set_cons_zero, List.set_cons_succ, i64_w, i32_w]
       rfl
      refine pure_ (i := 7) (N := some 48) (v := ?_) (a' := ?_) #[true, true, true, true, true, true, true, true, false, false, false, false, false, false] rfl rfl (any_of HT_.out (by kernel_rfl)) (fun _ _ _ h => h) (Or.inl ⟨by rfl, ?_⟩) ?_ ?_
      rotate_left
      ·
       intro w'
       go_simp
       with_reducible rfl
      rotate_left
      ·
       simp only [Act.put, List.setIfInBounds_toArray, List.set_cons_zero, List.set_cons_succ, i64_w, i32_w]
       rfl
      refine take_ (i := 8) (N := some 49) (v := ?_) (a' := ?_) #[true, true, true, true, true, true, true, true, true, false, false, false, false, false] rfl rfl (take_ofW HT_.out HW_.out (by kernel_rfl)) (fun _ _ _ h => h) (Or.inl ⟨by rfl, ?_⟩) hHeld ?_ ?_
      rotate_left
      ·
       rintro w' ⟨m, rfl⟩
       have y := (blk_cell (HTC.out m).1 92).trans hch
       go_simp
       with_reducible rfl
      rotate_left
      ·
       simp only [Act.put, List.setIfInBounds_toArray, List.set_cons_zero, List.set_cons_succ, i64_w, i32_w]
       rfl
      refine pure_ (i := 9) (N := some 50) (v := ?_) (a' := ?_) #[true, true, true, true, true, true, true, true, true, true, false, false, false, false] rfl rfl (any_of HT_.out (by kernel_rfl)) (fun _ _ _ h => h) (Or.inl ⟨by rfl, ?_⟩) ?_ ?_
      rotate_left
      ·
       intro w'
       go_simp
       with_reducible rfl
      rotate_left
      ·
       simp only [Act.put, List.setIfInBounds_toArray, List.set_cons_zero, List.set_cons_succ, i64_w, i32_w]
       rfl
      refine pure_ (i := 10) (N := some 51) (v := ?_) (a' := ?_) #[true, true, true, true, true, true, true, true, true, true, true, false, false, false] rfl rfl (any_of HT_.out (by kernel_rfl)) (fun _ _ _ h => h) (Or.inl ⟨by rfl, ?_⟩) ?_ ?_
      rotate_left
      ·
       intro w'
       go_simp
       with_reducible rfl
      rotate_left
      ·
       simp only [Act.put, List.setIfInBounds_toArray, List.set_cons_zero, List.set_cons_succ, i64_w, i32_w]
       rfl
      refine pure_ (i := 11) (N := some 52) (v := ?_) (a' := ?_) #[true, true, true, true, true, true, true, true, true, true, true, true, false, false] rfl rfl (any_of HT_.out (by kernel_rfl)) (fun _ _ _ h => h) (Or.inl ⟨by rfl, ?_⟩) ?_ ?_
      rotate_left
      ·
       intro w'
       go_simp
       with_reducible rfl
      rotate_left
      ·
       simp only [Act.put, List.setIfInBounds_toArray, List.set_cons_zero, List.set_cons_succ, i64_w, i32_w]
       rfl
      refine pure_ (i := 12) (N := some 53) (v := ?_) (a' := ?_) #[true, true, true, true, true, true, true, true, true, true, true, true, true, false] rfl rfl (any_of HT_.out (by kernel_rfl)) (fun _ _ _ h => h) (Or.inl ⟨by rfl, ?_⟩) ?_ ?_
      rotate_left
      ·
       intro w'
       go_simp
       with_reducible rfl
      rotate_left
      ·
       simp only [Act.put, List.setIfInBounds_toArray, List.set_cons_zero, List.set_cons_succ, i64_w, i32_w]
       rfl
      refine pure_ (i := 13) (N := some 5) (v := ?_) (a' := ?_) #[true, true, true, true, true, true, true, true, true, true, true, true, true, true] rfl rfl (any_of HT_.out (by kernel_rfl)) (fun _ _ _ h => h) (Or.inl ⟨by rfl, ?_⟩) ?_ ?_
      rotate_left
      ·
       intro w'
       go_simp
       with_reducible rfl
      rotate_left
      ·
       simp only [Act.put, List.setIfInBounds_toArray, List.set_cons_zero, List.set_cons_succ, i64_w, i32_w]
       rfl
      refine done_ (done_of HT_.out (by kernel_rfl)) ?_
      obtain ⟨m, rfl⟩ := hHeld
      go_wp2
      go_roundw
      case rel =>
       repeat apply Exists.intro
       refine ⟨⟨2, by omega, rfl, ?_, ?_, m, rfl⟩, ?_⟩
       rotate_left 2
       ·
        rw [b0]; rfl
       ·
        rw [hcc]
        exact congrArg (Value.int IntKind.i64) (w_add s.size (cntI s.data.toList 1) q (by omega))
       ·
        rw [hcc, decide_eq_true (show 0 < cntI s.data.toList 1 + q by omega)]
      case measure => simp [intOf]
    ·
     have hx : (w.drewN n).cell? ⟨T, 2, none⟩ = some (.string ⟨#[34]⟩) := (blk_cell (HTC.out n).2 2).trans rfl
     have h1 := hle 3
     have hb0 : ((⟨#[34]⟩ : ByteArray)[0]'(by decide)).toNat = 34 := rfl
     obtain ⟨gx, cx, hch, _⟩ := HWS.out.2.2
     go_wp2_with fail
     refine (Tryz.strings_Count_one s 34 _).mono ?_
     rintro e w1 ⟨rfl, rfl⟩
     have hcn : Lib.countByte s.data.toList 34 = s.data.toList.count 34 := rfl
     rw [hcn]
     have hcc : cntI s.data.toList 3 = cntI s.data.toList 2 + s.data.toList.count 34 := by simp [cntI]
     rw [hcc] at h1
     generalize s.data.toList.count 34 = q at hcc h1 hcn ⊢
     by_cases hz : q = 0
     ·
      subst hz
      go_wp2
      go_roundw
      case rel =>
       repeat apply Exists.intro
       refine ⟨⟨3, by omega, rfl, ?_, ?_, n, rfl⟩, ?_⟩
       rotate_left 2
       ·
        rw [b0]; rfl
       ·
        rw [hcc]; rfl
       ·
        rw [hcc]; rfl
      case measure => simp [intOf]
     ·
      have hz1 : decide ((q : Int) ≠ 0) = true := decide_eq_true (by omega)
      have hz2 : ((q : Int) != 0) = true := by simp; omega
      go_upto_region 9 with (fail)
      refine start_ (n := 14) (S := fun w' => ∃ n, w' = w.drewN n) (ds := []) #[false, false, false, false, false, false, false, false, false, false, false, false, false, false] (by kernel_rfl) rfl rfl ⟨n + 1, rfl⟩ (fun hHeld => ?_)
      refine with_tabW bsr_Replace.tab9 bsr_Replace.bits9 (fun HT_ HW_ => ?_)
      generalize (w.drewN n).drew = W0 at hHeld ⊢
      refine pure_ (i := 0) (N := some 41) (v := ?_) (a' := ?_) #[true, false, false, false, false, false, false, false, false, false, false, false, false, false] rfl rfl (any_of HT_.out (by kernel_rfl)) (fun _ _ _ h => h) (Or.inl ⟨by rfl, ?_⟩) ?_ ?_
      rotate_left
      ·
       intro w'
       go_simp
       with_reducible rfl
      rotate_left
      ·
       simp only [Act.put, List.setIfInBounds_toArray, List.set_cons_zero, List.set_cons_succ, i64_w, i32_w]
       rfl
      refine pure_ (i := 1) (N := some 42) (v := ?_) (a' := ?_) #[true, true, false, false, false, false, false, false, false, false, false, false, false, false] rfl rfl (any_of HT_.out (by kernel_rfl)) (fun _ _ _ h => h) (Or.inl ⟨by rfl, ?_⟩) ?_ ?_
      rotate_left
      ·
       intro w'
       go_simp
       with_reducible rfl
      rotate_left
      ·
       simp only [Act.put, List.setIfInBounds_toArray, List.set_cons_zero, List.set_cons_succ, i64_w, i32_w]
       rfl
      refine pure_ (i := 2) (N := some 43) (v := ?_) (a' := ?_) #[true, true, true, false, false, false, false, false, false, false, false, false, false, false] rfl rfl (any_of HT_.out (by kernel_rfl)) (fun _ _ _ h => h) (Or.inl ⟨by rfl, ?_⟩) ?_ ?_
      rotate_left
      ·
       intro w'
       go_simp
       with_reducible rfl
      rotate_left
      ·
       simp only [Act.put, List.setIfInBounds_toArray, List.set_cons_zero, List.set_cons_succ, i64_w, i32_w]
       rfl
      refine pure_ (i := 3) (N := some 44) (v := ?_) (a' := ?_) #[true, true, true, true, false, false, false, false, false, false, false, false, false, false] rfl rfl (any_of HT_.out (by kernel_rfl)) (fun _ _ _ h => h) (Or.inl ⟨by rfl, ?_⟩) ?_ ?_
      rotate_left
      ·
       intro w'
       go_simp
       with_reducible rfl
      rotate_left
      ·
       simp only [Act.put, List.setIfInBounds_toArray, List.set_cons_zero, List.set_cons_succ, i64_w, i32_w]
       rfl
      refine pure_ (i := 4) (N := some 45) (v := ?_) (a' := ?_) #[true, true, true, true, true, false, false, false, false, false, false, false, false, false] rfl rfl (any_of HT_.out (by kernel_rfl)) (fun _ _ _ h => h) (Or.inl ⟨by rfl, ?_⟩) ?_ ?_
      rotate_left
      ·
       intro w'
       go_simp
       with_reducible rfl
      rotate_left
      ·
       simp only [Act.put, List.setIfInBounds_toArray, List.set_cons_zero, List.set_cons_succ, i64_w, i32_w]
       rfl
      refine pure_ (i := 5) (N := some 46) (v := ?_) (a' := ?_) #[true, true, true, true, true, true, false, false, false, false, false, false, false, false] rfl rfl (any_of HT_.out (by kernel_rfl)) (fun _ _ _ h => h) (Or.inl ⟨by rfl, ?_⟩) ?_ ?_
      rotate_left
      ·
       intro w'
       go_simp
       with_reducible rfl
      rotate_left
      ·
       simp only [Act.put, List.setIfInBounds_toArray, List.set_cons_zero, List.set_cons_succ, i64_w, i32_w]
       rfl
      refine pure_ (i := 6) (N := some 47) (v := ?_) (a' := ?_) #[true, true, true, true, true, true, true, false, false, false, false, false, false, false] rfl rfl (any_of HT_.out (by kernel_rfl)) (fun _ _ _ h => h) (Or.inl ⟨by rfl, ?_⟩) ?_ ?_
      rotate_left
      ·
       intro w'
       go_simp
       with_reducible rfl
      rotate_left
      ·
       simp only [Act.put, List.setIfInBounds_toArray, List.set_cons_zero, List.set_cons_succ, i64_w, i32_w]
       rfl
      refine pure_ (i := 7) (N := some 48) (v := ?_) (a' := ?_) #[true, true, true, true, true, true, true, true, false, false, false, false, false, false] rfl rfl (any_of HT_.out (by kernel_rfl)) (fun _ _ _ h => h) (Or.inl ⟨by rfl, ?_⟩) ?_ ?_
      rotate_left
      ·
       intro w'
       go_simp
       with_reducible rfl
      rotate_left
      ·
       simp only [Act.put, List.setIfInBounds_toArray, List.set_cons_zero, List.set_cons_succ, i64_w, i32_w]
       rfl
      refine take_ (i := 8) (N := some 49) (v := ?_) (a' := ?_) #[true, true, true, true, true, true, true, true, true, false, false, false, false, false] rfl rfl (take_ofW HT_.out HW_.out (by kernel_rfl)) (fun _ _ _ h => h) (Or.inl ⟨by rfl, ?_⟩) hHeld ?_ ?_
      rotate_left
      ·
       rintro w' ⟨m, rfl⟩
       have y := (blk_cell (HTC.out m).1 34).trans hch
       go_simp
       with_reducible rfl
      rotate_left
      ·
       simp only [Act.put, List.setIfInBounds_toArray, List.set_cons_zero, List.set_cons_succ, i64_w, i32_w]
       rfl
      refine pure_ (i := 9) (N := some 50) (v := ?_) (a' := ?_) #[true, true, true, true, true, true, true, true, true, true, false, false, false, false] rfl rfl (any_of HT_.out (by kernel_rfl)) (fun _ _ _ h => h) (Or.inl ⟨by rfl, ?_⟩) ?_ ?_
      rotate_left
      ·
       intro w'
       go_simp
       with_reducible rfl
      rotate_left
      ·
       simp only [Act.put, List.setIfInBounds_toArray, List.set_cons_zero, List.set_cons_succ, i64_w, i32_w]
       rfl
      refine pure_ (i := 10) (N := some 51) (v := ?_) (a' := ?_) #[true, true, true, true, true, true, true, true, true, true, true, false, false, false] rfl rfl (any_of HT_.out (by kernel_rfl)) (fun _ _ _ h => h) (Or.inl ⟨by rfl, ?_⟩) ?_ ?_
      rotate_left
      ·
       intro w'
       go_simp
       with_reducible rfl
      rotate_left
      ·
       simp only [Act.put, List.setIfInBounds_toArray, List.set_cons_zero, List.set_cons_succ, i64_w, i32_w]
       rfl
      refine pure_ (i := 11) (N := some 52) (v := ?_) (a' := ?_) #[true, true, true, true, true, true, true, true, true, true, true, true, false, false] rfl rfl (any_of HT_.out (by kernel_rfl)) (fun _ _ _ h => h) (Or.inl ⟨by rfl, ?_⟩) ?_ ?_
      rotate_left
      ·
       intro w'
       go_simp
       with_reducible rfl
      rotate_left
      ·
       simp only [Act.put, List.setIfInBounds_toArray, List.set_cons_zero, List.set_cons_succ, i64_w, i32_w]
       rfl
      refine pure_ (i := 12) (N := some 53) (v := ?_) (a' := ?_) #[true, true, true, true, true, true, true, true, true, true, true, true, true, false] rfl rfl (any_of HT_.out (by kernel_rfl)) (fun _ _ _ h => h) (Or.inl ⟨by rfl, ?_⟩) ?_ ?_
      rotate_left
      ·
       intro w'
       go_simp
       with_reducible rfl
      rotate_left
      ·
       simp only [Act.put, List.setIfInBounds_toArray, List.set_cons_zero, List.set_cons_succ, i64_w, i32_w]
       rfl
      refine pure_ (i := 13) (N := some 5) (v := ?_) (a' := ?_) #[true, true, true, true, true, true, true, true, true, true, true, true, true, true] rfl rfl (any_of HT_.out (by kernel_rfl)) (fun _ _ _ h => h) (Or.inl ⟨by rfl, ?_⟩) ?_ ?_
      rotate_left
      ·
       intro w'
       go_simp
       with_reducible rfl
      rotate_left
      ·
       simp only [Act.put, List.setIfInBounds_toArray, List.set_cons_zero, List.set_cons_succ, i64_w, i32_w]
       rfl
      refine done_ (done_of HT_.out (by kernel_rfl)) ?_
      obtain ⟨m, rfl⟩ := hHeld
      go_wp2
      go_roundw
      case rel =>
       repeat apply Exists.intro
       refine ⟨⟨3, by omega, rfl, ?_, ?_, m, rfl⟩, ?_⟩
       rotate_left 2
       ·
        rw [b0]; rfl
       ·
        rw [hcc]
        exact congrArg (Value.int IntKind.i64) (w_add s.size (cntI s.data.toList 2) q (by omega))
       ·
        rw [hcc, decide_eq_true (show 0 < cntI s.data.toList 2 + q by omega)]
      case measure => simp [intOf]
    ·
     go_wp2
     go_meet
     case rel => exact ⟨by rw [specN_counts]; rfl, by rw [specN_counts]; rfl, n, rfl⟩
  ·
   have b0 : decide ((24 : Int) ≤ (s.size : Int)) = false := decide_eq_false h24
   have b1 : decide (24 ≤ s.size) = false := decide_eq_false (by omega)
   go_wp2_with fail
   go_loopg [5, 6, 10] (s.size + 1) (fun kq v5 v6 v10 w' => ∃ i : Nat, i ≤ s.size ∧ v5 = .int .i64 ((s.size + specN (s.data.toList.take i) : Nat) : Int) ∧ v6 = .bool (decide (0 < specN (s.data.toList.take i))) ∧ v10 = .int .i64 (i : Int) ∧ i + kq = s.size + 1 ∧ w' = w)
   case atStart => exact ⟨0, Nat.zero_le _, rfl, rfl, rfl, by omega, rfl⟩
   case round =>
    obtain ⟨i, hle, rfl, rfl, rfl, hk, hwe⟩ := hrel
    obtain rfl := hwe.symm
    by_cases hi : i < s.size
    ·
     have hi2 : (i : Int) < (s.size : Int) := by omega
     have hbd : (((s[i]'hi).toNat : Nat) : Int) < 256 := by have := UInt8.toNat_lt (s[i]'hi); omega
     have htk := take_b s i hi
     have hsn := specN_snoc (s.data.toList.take i) (s[i]'hi)
     rw [← htk] at hsn
     have HSN := Aside0.mk hsn
     have HSB := Aside0.mk (show specN (s.data.toList.take i) ≤ s.size from Nat.le_trans (List.countP_le_length (p := special)) (by rw [List.length_take]; omega))
     clear hsn htk
     cases gk with
     | zero => omega
     | succ k1 =>
      have HK := Aside0.mk hk
      clear hk
      by_cases hsp : special (s[i]'hi) = true
      ·
       obtain ⟨kx, hes, gx, cx, hch, hg1, hg2, hc2, hk0, hk1⟩ := HSP.out (s[i]'hi) hsp
       have hx : w.cell? ⟨T + 1, (s[i]'hi).toNat, none⟩ = some (.slice (some ⟨gx, 0, none⟩) 2 cx) := (blk_cell (HTC.out 0).1 (s[i]'hi).toNat).trans hch
       have hnil : ∀ (W : World), (binOp .neq 172 (.slice (some ⟨gx, 0, none⟩) 2 cx) (.slice none 0 0)).run Tryz.prog W = .ok (.bool true) W := fun W => run_neq_slice_nil_any W 172 5 (some ⟨gx, 0, none⟩) 2 cx 0 0 Tryz.underlying172
       go_wp2_with fail
       go_roundg k1
       case measure => have := HK.out; omega
       case rel =>
        have hs1 := HSN.out
        rw [if_pos hsp] at hs1
        refine ⟨i + 1, hi, ?_, ?_, by simp, by have := HK.out; omega, rfl⟩
        ·
         rw [hs1]
         exact congrArg (Value.int IntKind.i64) (w_add1 s.size (specN (s.data.toList.take i)) (by have := HSB.out; omega))
        ·
         rw [hs1, decide_eq_true (show 0 < specN (s.data.toList.take i) + 1 by omega)]
      ·
       have hx : w.cell? ⟨T + 1, (s[i]'hi).toNat, none⟩ = some (.slice none 0 0) := (blk_cell (HTC.out 0).1 (s[i]'hi).toNat).trans (HNS.out (s[i]'hi) (by simpa using hsp))
       have hnil : ∀ (W : World), (binOp .neq 172 (.slice none 0 0) (.slice none 0 0)).run Tryz.prog W = .ok (.bool false) W := fun W => run_neq_slice_nil_any W 172 5 none 0 0 0 0 Tryz.underlying172
       go_wp2_with fail
       go_roundg k1
       case measure => have := HK.out; omega
       case rel =>
        have hs1 := HSN.out
        rw [if_neg hsp] at hs1
        refine ⟨i + 1, hi, ?_, ?_, by simp, by have := HK.out; omega, rfl⟩
        ·
         rw [hs1]; rfl
        ·
         rw [hs1]; rfl
    ·
     have hi2 : ¬ (i : Int) < (s.size : Int) := by omega
     have hie : i = s.size := by omega
     have htl : s.data.toList.take i = s.data.toList := List.take_of_length_le (by rw [Array.length_toList]; exact Nat.le_of_eq hie.symm)
     rw [htl]
     clear hle hk htl
     go_wp2_with fail
     go_meet
     case rel => exact ⟨rfl, rfl, 0, rfl⟩
 obtain ⟨rfl, rfl, nw, rfl⟩ := hcut
 by_cases hz : specN s.data.toList = 0
 ·
  have z1 : decide (0 < specN s.data.toList) = false := decide_eq_false (by omega)
  go_wp2_with fail
  go_ret
  exact ⟨by rw [escL_none _ hz]; rfl, ⟨rfl, rfl, rfl, Nat.le_refl _, fun _ _ => rfl⟩⟩
 ·
  have z1 : decide (0 < specN s.data.toList) = true := decide_eq_true (by omega)
  have hN2 : specN s.data.toList ≤ s.data.toList.length := List.countP_le_length
  have hsz : s.data.toList.length = s.size := Array.length_toList
  generalize hN : s.size + specN s.data.toList = N
  have HN := Aside0.mk (And.intro hN (show N ≤ 281474976710630 by omega))
  clear hN hN2
  have hmk : ∀ W : World, (Instr.makeSlice 172 (.int .i64 (N : Int)) (.int .i64 (N : Int))).run Tryz.prog W = .ok (.slice (some ⟨W.heap.size, 0, none⟩) N N) (W.alloc (.cells (madeCells #[.int .u8 0] N) 5)) := fun W => run_make_row' 172 5 (.int .u8 0) 1 Tryz.underlying172 (by kernel_rfl) rfl .i64 .i64 N (by have := HN.out.2; omega) (by have := HN.out.2; omega) W
  have hEL : (escL s.data.toList).length = N := by have h := escL_len s.data.toList; have := HN.out.1; omega
  have HEL := Aside0.mk hEL
  have hNb : (N : Int) ≤ 281474976710630 := by have := HN.out.2; omega
  clear hEL hsz
  go_wp2_with fail
  go_loopg [13, 14] (s.size + 1) (fun kq v13 v14 ws => ∃ i cur, i ≤ s.size ∧ v13 = .int .i64 ((escL (s.data.toList.take i)).length : Int) ∧ v14 = .int .i64 (i : Int) ∧ i + kq = s.size + 1 ∧ ws.heap[w.heap.size]? = some (.cells cur 5 (0, 0)) ∧
   cur.toList = bvs (escL (s.data.toList.take i)) ++ List.replicate (N - (bvs (escL (s.data.toList.take i))).length) (.int .u8 0) ∧ Below w.heap.size w ws)
  case atStart =>
   refine ⟨0, madeCells #[.int .u8 0] N, Nat.zero_le _, rfl, rfl, by omega, ?_, by rw [mc_list]; rfl, ⟨rfl, rfl, rfl, ?_, fun k hk => Below.heap_alloc (w.drewN nw) _ k hk⟩⟩
   ·
    exact Array.getElem?_push_size
   ·
    show w.heap.size ≤ (w.heap.push _).size
    rw [Array.size_push]; omega
  case round =>
   obtain ⟨i, cur, hle, rfl, rfl, hk, hcr, hcl, hbl⟩ := hrel
   have hT : wr.heap[T + 1]? = some (.cells ch 228 (0, 0)) := (hbl.block _ lt).trans (HTC.out 0).1
   by_cases hi : i < s.size
   ·
    have hi2 : (i : Int) < (s.size : Int) := by omega
    have hbd : (((s[i]'hi).toNat : Nat) : Int) < 256 := by have := UInt8.toNat_lt (s[i]'hi); omega
    have hbe := bvs_escL_take s i hi
    have hln : (escL (s.data.toList.take (i + 1))).length = (escL (s.data.toList.take i)).length + (esc (s[i]'hi)).length := by
     have h := congrArg List.length hbe
     rw [List.length_append, bvs_len, bvs_len, bvs_len] at h
     exact h
    have hle2 := escL_le s (i + 1)
    rw [HEL.out, hln] at hle2
    have hcs : cur.size = N := by
     have h := congrArg List.length hcl
     rw [Array.length_toList, List.length_append, List.length_replicate, bvs_len] at h
     omega
    have HB := Aside0.mk (And.intro hbe (And.intro hcl (And.intro hbl (bvs_len (escL (s.data.toList.take i))))))
    clear hbe hcl hbl
    generalize hjN : (escL (s.data.toList.take i)).length = jN at *
    cases gk with
    | zero => omega
    | succ k1 =>
     have HK := Aside0.mk hk
     clear hk
     by_cases hsp : special (s[i]'hi) = true
     ·
      obtain ⟨kx, hes, gx, cx, hch, hg1, hg2, hc2, hk0, hk1⟩ := HSP.out (s[i]'hi) hsp
      have hx : wr.cell? ⟨T + 1, (s[i]'hi).toNat, none⟩ = some (.slice (some ⟨gx, 0, none⟩) 2 cx) := (blk_cell hT (s[i]'hi).toNat).trans hch
      have hy0 : wr.cell? ⟨gx, 0, none⟩ = some (.int .u8 92) := (World.cell?_of_block (w := w) (HB.out.2.2.1.block gx hg2)).trans hk0
      have hy1 : wr.cell? ⟨gx, 1, none⟩ = some (.int .u8 (kx.toNat : Int)) := (World.cell?_of_block (w := w) (HB.out.2.2.1.block gx hg2)).trans hk1
      have hnil : ∀ (W : World), (binOp .neq 172 (.slice (some ⟨gx, 0, none⟩) 2 cx) (.slice none 0 0)).run Tryz.prog W = .ok (.bool true) W := fun W => run_neq_slice_nil_any W 172 5 (some ⟨gx, 0, none⟩) 2 cx 0 0 Tryz.underlying172
      rw [hes] at hle2 hln
      have HS := Aside0.mk (And.intro hcr (And.intro (show jN + 2 ≤ N from hle2) hcs))
      have hj1 : (jN : Int) ≤ (N : Int) := by have := HS.out.2; omega
      have hjn : ¬ N = jN := by have := HS.out.2; omega
      have HL := Aside0.mk hln
      clear hln hle2 hcr hcs
      go_upto_region 28 with (fail)
      refine start_ (n := 13) (S := fun w' => ∃ n, w' = wr.drewN n) (ds := [10]) #[false, false, false, false, false, false, false, false, false, false, false, false, false] (by kernel_rfl) rfl rfl ⟨1, rfl⟩ (fun hHeld => ?_)
      refine with_tabW bsr_Replace.tab28 bsr_Replace.bits28 (fun HT_ HW_ => ?_)
      generalize wr.drew = W0 at hHeld ⊢
      refine pure_ (i := 0) (N := some 102) (v := ?_) (a' := ?_) #[true, false, false, false, false, false, false, false, false, false, false, false, false] rfl rfl (any_of HT_.out (by kernel_rfl)) (fun _ _ _ h => h) (Or.inl ⟨by rfl, ?_⟩) ?_ ?_
      rotate_left
      ·
       intro w'
       go_simp
       with_reducible rfl
      rotate_left
      ·
       simp only [Act.put, List.setIfInBounds_toArray, List.set_cons_zero, List.set_cons_succ, i64_w, i32_w]
       rfl
      refine pure_ (i := 1) (N := some 103) (v := ?_) (a' := ?_) #[true, true, false, false, false, false, false, false, false, false, false, false, false] rfl rfl (any_of HT_.out (by kernel_rfl)) (fun _ _ _ h => h) (Or.inl ⟨by rfl, ?_⟩) ?_ ?_
      rotate_left
      ·
       intro w'
       go_simp
       with_reducible rfl
      rotate_left
      ·
       simp only [Act.put, List.setIfInBounds_toArray, List.set_cons_zero, List.set_cons_succ, i64_w, i32_w]
       rfl
      refine pure_ (i := 2) (N := some 104) (v := ?_) (a' := ?_) #[true, true, true, false, false, false, false, false, false, false, false, false, false] rfl rfl (any_of HT_.out (by kernel_rfl)) (fun _ _ _ h => h) (Or.inl ⟨by rfl, ?_⟩) ?_ ?_
      rotate_left
      ·
       intro w'
       go_simp
       with_reducible rfl
      rotate_left
      ·
       simp only [Act.put, List.setIfInBounds_toArray, List.set_cons_zero, List.set_cons_succ, i64_w, i32_w]
       rfl
      refine pure_ (i := 3) (N := some 105) (v := ?_) (a' := ?_) #[true, true, true, true, false, false, false, false, false, false, false, false, false] rfl rfl (any_of HT_.out (by kernel_rfl)) (fun _ _ _ h => h) (Or.inl ⟨by rfl, ?_⟩) ?_ ?_
      rotate_left
      ·
       intro w'
       go_simp
       with_reducible rfl
      rotate_left
      ·
       simp only [Act.put, List.setIfInBounds_toArray, List.set_cons_zero, List.set_cons_succ, i64_w, i32_w]
       rfl
      refine pure_ (i := 4) (N := some 106) (v := ?_) (a' := ?_) #[true, true, true, true, true, false, false, false, false, false, false, false, false] rfl rfl (any_of HT_.out (by kernel_rfl)) (fun _ _ _ h => h) (Or.inl ⟨by rfl, ?_⟩) ?_ ?_
      rotate_left
      ·
       intro w'
       go_simp
       with_reducible rfl
      rotate_left
      ·
       simp only [Act.put, List.setIfInBounds_toArray, List.set_cons_zero, List.set_cons_succ, i64_w, i32_w]
       rfl
      refine pure_ (i := 5) (N := some 107) (v := ?_) (a' := ?_) #[true, true, true, true, true, true, false, false, false, false, false, false, false] rfl rfl (any_of HT_.out (by kernel_rfl)) (fun _ _ _ h => h) (Or.inl ⟨by rfl, ?_⟩) ?_ ?_
      rotate_left
      ·
       intro w'
       go_simp
       with_reducible rfl
      rotate_left
      ·
       simp only [Act.put, List.setIfInBounds_toArray, List.set_cons_zero, List.set_cons_succ, i64_w, i32_w]
       rfl
      refine pure_ (i := 6) (N := some 108) (v := ?_) (a' := ?_) #[true, true, true, true, true, true, true, false, false, false, false, false, false] rfl rfl (any_of HT_.out (by kernel_rfl)) (fun _ _ _ h => h) (Or.inl ⟨by rfl, ?_⟩) ?_ ?_
      rotate_left
      ·
       intro w'
       go_simp
       with_reducible rfl
      rotate_left
      ·
       simp only [Act.put, List.setIfInBounds_toArray, List.set_cons_zero, List.set_cons_succ, i64_w, i32_w]
       rfl
      refine pure_ (i := 7) (N := some 109) (v := ?_) (a' := ?_) #[true, true, true, true, true, true, true, true, false, false, false, false, false] rfl rfl (any_of HT_.out (by kernel_rfl)) (fun _ _ _ h => h) (Or.inl ⟨by rfl, ?_⟩) ?_ ?_
      rotate_left
      ·
       intro w'
       go_simp
       with_reducible rfl
      rotate_left
      ·
       simp only [Act.put, List.setIfInBounds_toArray, List.set_cons_zero, List.set_cons_succ, i64_w, i32_w]
       rfl
      refine pure_ (i := 8) (N := some 110) (v := ?_) (a' := ?_) #[true, true, true, true, true, true, true, true, true, false, false, false, false] rfl rfl (any_of HT_.out (by kernel_rfl)) (fun _ _ _ h => h) (Or.inl ⟨by rfl, ?_⟩) ?_ ?_
      rotate_left
      ·
       intro w'
       go_simp
       with_reducible rfl
      rotate_left
      ·
       simp only [Act.put, List.setIfInBounds_toArray, List.set_cons_zero, List.set_cons_succ, i64_w, i32_w]
       rfl
      refine take_ (i := 9) (N := some 111) (v := ?_) (a' := ?_) #[true, true, true, true, true, true, true, true, true, true, false, false, false] rfl rfl (take_ofW HT_.out HW_.out (by kernel_rfl)) (fun _ _ _ h => h) (Or.inl ⟨by rfl, ?_⟩) hHeld ?_ ?_
      rotate_left
      ·
       rintro w' ⟨m, rfl⟩
       have y : (wr.drewN m).cell? ⟨T + 1, (s[i]'hi).toNat, none⟩ = some (.slice (some ⟨gx, 0, none⟩) 2 cx) := hx
       go_simp
       with_reducible rfl
      rotate_left
      ·
       simp only [Act.put, List.setIfInBounds_toArray, List.set_cons_zero, List.set_cons_succ, i64_w, i32_w]
       rfl
      refine last_ (i := 10) (N := some 112) #[true, true, true, true, true, true, true, true, true, true, true, false, false] rfl rfl (one_of HT_.out (by kernel_rfl)) (by decide) (fun K hK => ?_)
      obtain ⟨m, rfl⟩ := hHeld
      have hcp : (Builtin.copy_ #[172, 172] 3 #[.slice (some ⟨w.heap.size, jN, none⟩) (N - jN) (N - jN), .slice (some ⟨gx, 0, none⟩) 2 cx]).run Tryz.prog (wr.drewN m) = .ok (.int .i64 2) ((wr.drewN m).setRow w.heap.size (cur.toList.take jN ++ [Value.int .u8 92, Value.int .u8 (kx.toNat : Int)] ++ cur.toList.drop (jN + 2)).toArray) := run_copy_row Tryz.prog (wr.drewN m) 172 172 3 5 w.heap.size jN (N - jN) (N - jN) ⟨gx, 0, none⟩ 2 cx cur 5 [Value.int .u8 92, Value.int .u8 (kx.toNat : Int)] Tryz.underlying172 (by kernel_rfl) HS.out.1 (show (2 : Nat) = Nat.min 2 (N - jN) from (Nat.min_eq_left (by have := HS.out.2.1; omega)).symm) (two_src (W := wr.drewN m) hy0 hy1) (by have := HS.out.2; show jN + 2 ≤ _; omega) (by intro v hv; simp only [List.mem_cons, List.not_mem_nil, or_false] at hv; rcases hv with rfl | rfl <;> rfl)
      refine value_ (w1 := (wr.drewN m).setRow w.heap.size (cur.toList.take jN ++ [Value.int .u8 92, Value.int .u8 (kx.toNat : Int)] ++ cur.toList.drop (jN + 2)).toArray) (v := .int .i64 2) (by rfl) rfl (by go_simp) ?_
      refine hK.out _ _ ?_
      clear hK K
      refine norm_ (a' := ?_) ?_ ?_
      rotate_left
      ·
       show Act.put _ (some 112) _ = _
       simp only [Act.put, List.setIfInBounds_toArray, List.set_cons_zero, List.set_cons_succ, i64_w, i32_w]
       rfl
      refine pure_ (i := 11) (N := some 113) (v := ?_) (a' := ?_) #[true, true, true, true, true, true, true, true, true, true, true, true, false] rfl rfl (any_of HT_.out (by kernel_rfl)) (fun _ _ _ h => h) (Or.inl ⟨by rfl, ?_⟩) ?_ ?_
      rotate_left
      ·
       intro w'
       go_simp
       with_reducible rfl
      rotate_left
      ·
       simp only [Act.put, List.setIfInBounds_toArray, List.set_cons_zero, List.set_cons_succ, i64_w, i32_w]
       rfl
      refine pure_ (i := 12) (N := some 13) (v := ?_) (a' := ?_) #[true, true, true, true, true, true, true, true, true, true, true, true, true] rfl rfl (any_of HT_.out (by kernel_rfl)) (fun _ _ _ h => h) (Or.inl ⟨by rfl, ?_⟩) ?_ ?_
      rotate_left
      ·
       intro w'
       go_simp
       with_reducible rfl
      rotate_left
      ·
       simp only [Act.put, List.setIfInBounds_toArray, List.set_cons_zero, List.set_cons_succ, i64_w, i32_w]
       rfl
      refine done_ (done_of HT_.out (by kernel_rfl)) ?_
      go_wp2_with fail
      go_roundg k1
      case measure => have := HK.out; omega
      case rel =>
       refine ⟨i + 1, _, hi, ?_, by simp, by have := HK.out; omega, setRow_heap _ _ cur _ 5 (0, 0) HS.out.1, ?_, ?_⟩
       ·
        rw [HL.out, IntWalk.wrap64_in _ (by have := HS.out.2; omega)]
        rfl
       ·
        rw [List.toList_toArray, HB.out.1, hes, HB.out.2.1]
        have h := row_copy (bvs (escL (s.data.toList.take i))) (bvs [92, kx]) (.int .u8 0) N (by rw [HB.out.2.2.2]; exact HS.out.2.1)
        rw [HB.out.2.2.2] at h ⊢
        rw [← h, List.append_assoc]
        rfl
       ·
        exact HB.out.2.2.1.trans ⟨rfl, rfl, rfl, Nat.le_of_eq (setRow_size _ _ _).symm, fun k hk => setRow_other _ _ _ _ (by omega)⟩
     ·
      have hx : wr.cell? ⟨T + 1, (s[i]'hi).toNat, none⟩ = some (.slice none 0 0) := (blk_cell hT (s[i]'hi).toNat).trans (HNS.out (s[i]'hi) (by simpa using hsp))
      have hnil : ∀ (W : World), (binOp .neq 172 (.slice none 0 0) (.slice none 0 0)).run Tryz.prog W = .ok (.bool false) W := fun W => run_neq_slice_nil_any W 172 5 none 0 0 0 0 Tryz.underlying172
      have hes := (plain_esc (b := s[i]'hi) (by simpa using hsp)).1
      rw [hes] at hle2 hln
      have hj1 : (jN : Int) < (N : Int) := by have : jN + 1 ≤ N := hle2; omega
      have hcell : wr.cell? ⟨w.heap.size, jN, none⟩ = some (.int .u8 0) := by
       refine (blk_cell hcr jN).trans ?_
       rw [← Array.getElem?_toList, HB.out.2.1, List.getElem?_append_right (by rw [HB.out.2.2.2]; exact Nat.le_refl _), List.getElem?_replicate, HB.out.2.2.2, if_pos (by omega)]
      have HS := Aside0.mk (And.intro hcr (And.intro (show jN + 1 ≤ N from hle2) hcs))
      have hfro : wr.frozen? ⟨w.heap.size, jN, none⟩ = false := by simp [World.frozen?, hcr]
      have HL := Aside0.mk (And.intro hln hes)
      clear hln hle2 hcs hes
      go_wp2_with fail
      go_roundg k1
      case measure => have := HK.out; omega
      case rel =>
       refine ⟨i + 1, cur.setIfInBounds jN (.int .u8 ((s[i]'hi).toNat : Int)), hi, ?_, by simp, by have := HK.out; omega, ?_, ?_, ?_⟩
       ·
        rw [HL.out.1]
        rfl
       ·
        rw [setCell_eq_setRow _ _ _ cur 5 (0, 0) _ HS.out.1]
        exact setRow_heap _ _ cur _ 5 (0, 0) HS.out.1
       ·
        rw [Array.toList_setIfInBounds, HB.out.1, HL.out.2, HB.out.2.1]
        have h := row_put (bvs (escL (s.data.toList.take i))) (.int .u8 ((s[i]'hi).toNat : Int)) (.int .u8 0) N (by rw [HB.out.2.2.2]; exact HS.out.2.1)
        rw [HB.out.2.2.2] at h ⊢
        exact h
       ·
        exact HB.out.2.2.1.setCell (Nat.le_refl _) _
   ·
    have hi2 : ¬ (i : Int) < (s.size : Int) := by omega
    have hie : i = s.size := by omega
    have htl : s.data.toList.take i = s.data.toList := List.take_of_length_le (by rw [Array.length_toList]; exact Nat.le_of_eq hie.symm)
    rw [htl] at hcl ⊢
    clear hle hk htl
    have hcl2 : cur.toList = bvs (escL s.data.toList) := by
     rw [hcl, bvs_len, HEL.out, Nat.sub_self]
     exact List.append_nil _
    have hconv : (convert 172 9 (.slice (some ⟨w.heap.size, 0, none⟩) N N)).run Tryz.prog wr = .ok (.string ⟨(escL s.data.toList).toArray⟩) wr := by
     have h := run_convert_bytes_back (P := Tryz.prog) wr 172 9 5 ⟨w.heap.size, 0, none⟩ N (escL s.data.toList) Tryz.underlying172 (by kernel_rfl) (by kernel_rfl) (fun j hj => by
      have h1 := blk_cell hcr j
      rw [← Array.getElem?_toList, hcl2, List.getElem?_eq_getElem (by rw [bvs_len]; exact hj)] at h1
      have h2 : (⟨w.heap.size, 0, none⟩ : Addr).add j = ⟨w.heap.size, j, none⟩ := by simp [Addr.add]; exact fun h => h.symm
      rw [h2, h1]
      simp [bvs])
     rw [HEL.out] at h
     exact h
    clear hcl hcl2 hcr
    go_wp2_with fail
    go_ret
    exact ⟨rfl, hbl⟩
end Go.Proofs.YtefeibndnghejaaGreatDoor.Pr
