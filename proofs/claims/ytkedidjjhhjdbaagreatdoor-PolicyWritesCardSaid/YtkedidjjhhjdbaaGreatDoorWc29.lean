import Derived.Test.YtkedidjjhhjdbaaGreatDoorWc0
import Derived.Test.YtkedidjjhhjdbaaGreatDoorWc28
set_option linter.unusedVariables false
set_option linter.unusedSimpArgs false
namespace Go.Proofs.YtkedidjjhhjdbaaGreatDoor.Pr
open Go.RowKit Go.Proofs.YtkedidjjhhjdbaaGreatDoorW.PrintWords Go.Proofs.YtkedidjjhhjdbaaGreatDoorW.PrintLast Go.Proofs.YtkedidjjhhjdbaaGreatDoorW.PrintMore
def belfryref04_MatchText.T10 : Bool × List (List Nat × List Nat) := (true, [([], []), ([], []), ([], []), ([1, 2], [1, 2]), ([3], [3]), ([4], [4]), ([0, 5], [0, 5]), ([], []), ([6, 7], [6, 7]), ([], []), ([], []), ([9, 10], [9, 10]), ([11], [11]), ([12], [12]), ([13], [13]), ([8, 14], [8, 14]), ([15, 14, 0, 1, 2, 3, 4, 5, 6, 7, 8, 9, 10, 11, 12, 13, 14, 15], [0, 15])])
def belfryref04_MatchText.B10 : List Nat := [0, 0, 0, 6, 14, 30, 63, 0, 255, 0, 0, 1536, 3584, 7680, 15872, 32767, 65535]
set_option maxRecDepth 100000 in
theorem belfryref04_MatchText.tab10 : rtab .any (opsOf Tryz.f82 10) = belfryref04_MatchText.T10 := by kernel_rfl
set_option maxRecDepth 100000 in
theorem belfryref04_MatchText.bits10 : waitsOk belfryref04_MatchText.T10.2 belfryref04_MatchText.B10 = true := by kernel_rfl
def opB (c : Int) : ByteArray := if c = 1 then (⟨#[61]⟩ : ByteArray) else if c = 2 then (⟨#[33, 61]⟩ : ByteArray) else if c = 3 then (⟨#[61, 126]⟩ : ByteArray) else if c = 4 then (⟨#[33, 126]⟩ : ByteArray) else (⟨#[]⟩ : ByteArray)
theorem opB_size (c : Int) : (opB c).size ≤ 2 := by
 unfold opB
 split
 · decide
 split
 · decide
 split
 · decide
 split <;> decide
def ops5 : List ByteArray := [(⟨#[]⟩ : ByteArray), (⟨#[61]⟩ : ByteArray), (⟨#[33, 61]⟩ : ByteArray), (⟨#[61, 126]⟩ : ByteArray), (⟨#[33, 126]⟩ : ByteArray)]
theorem op_cell (w : World) (c : Int) (h1 : 1 ≤ c) (h4 : c ≤ 4) : (w.alloc (.cells #[.string (⟨#[]⟩ : ByteArray), .string (⟨#[61]⟩ : ByteArray), .string (⟨#[33, 61]⟩ : ByteArray), .string (⟨#[61, 126]⟩ : ByteArray), .string (⟨#[33, 126]⟩ : ByteArray)] 9)).cell? ⟨w.heap.size, c.toNat, none⟩ = some (.string (opB c)) := by
 have : c = 1 ∨ c = 2 ∨ c = 3 ∨ c = 4 := by omega
 have hb := blk_new w (.cells #[.string (⟨#[]⟩ : ByteArray), .string (⟨#[61]⟩ : ByteArray), .string (⟨#[33, 61]⟩ : ByteArray), .string (⟨#[61, 126]⟩ : ByteArray), .string (⟨#[33, 126]⟩ : ByteArray)] 9)
 rcases this with rfl | rfl | rfl | rfl
 · exact (blk_cell hb 1).trans rfl
 · exact (blk_cell hb 2).trans rfl
 · exact (blk_cell hb 3).trans rfl
 exact (blk_cell hb 4).trans rfl
def belfryref04_MatchText.go (k : Nat) : List S33 → Bool → ByteArray → Option ByteArray
  | [], _, acc => if acc.size + 1 ≤ 9223372036854775807 then some (acc ++ (⟨#[125]⟩ : ByteArray)) else none
  | m :: r, b, acc =>
    if 1 ≤ m.f0 ∧ m.f0 ≤ 4 ∧ acc.size < 100000000 ∧ m.f1.size < 100000000 then
      (belfryref04_Quote.f k m.f2).bind fun q => if q.size < 100000000 then belfryref04_MatchText.go k r false (if b = true then ((acc ++ m.f1) ++ opB m.f0) ++ q else (((acc ++ (⟨#[44, 32]⟩ : ByteArray)) ++ m.f1) ++ opB m.f0) ++ q) else none
    else none
def belfryref04_MatchText.f (k : Nat) (l : List S33) : Option ByteArray := belfryref04_MatchText.go k l true (⟨#[123]⟩ : ByteArray)
set_option maxHeartbeats 8000000 in
set_option maxRecDepth 100000 in
theorem belfryref04_MatchText.calls (k : Nat) (A0 : Option Addr) (c0 : Nat) (l0 : List (S33)) (r : ByteArray) (w : World) (hr0 : Kd.C k33 w A0 l0.length l0) (hc0 : l0.length ≤ c0) (h : belfryref04_MatchText.f k l0 = some r) :
  Calls Tryz.prog 82 #[.slice A0 l0.length c0] w fun e w' => e = .returned (.string r) ∧ Below w.heap.size w w' := by
 have HR0 := Aside0.mk hr0
 have hl9 : l0.length ≤ 9223372036854775807 := hr0.2.1
 have HH : Aside0 (belfryref04_MatchText.go k (l0.drop 0) (decide (0 = 0)) (⟨#[123]⟩ : ByteArray) = some r) := ⟨h⟩
 clear hr0 h
 go_enter Tryz.func82, Tryz.ntmps82
 go_wp2
 go_loopw [3, 4] (fun v3 v4 wr => ∃ (i : Nat) (acc : ByteArray), i ≤ l0.length ∧ v3 = .string acc ∧ v4 = .int .i64 i ∧ Aside0 (belfryref04_MatchText.go k (l0.drop i) (decide (i = 0)) acc = some r) ∧ Aside0 (Below w.heap.size w wr)) (fun _ v4 _ => l0.length - (intOf v4).toNat)
 case atStart => exact ⟨0, _, Nat.zero_le _, rfl, rfl, HH, ⟨Below.refl _ _⟩⟩
 case round =>
  obtain ⟨i, acc, hi, rfl, rfl, HP0, HB⟩ := hrel
  clear HH; by_cases hlt : i < l0.length; rotate_left
  ·
   obtain rfl : i = l0.length := by omega
   have b0 : decide ((l0.length : Int) < (l0.length : Int)) = false := decide_eq_false (by omega)
   have b1 : decide (l0.length < l0.length) = false := decide_eq_false hlt
   have hp := HP0.out; rw [List.drop_eq_nil_of_le (Nat.le_refl _), belfryref04_MatchText.go] at hp; by_cases hs : acc.size + 1 ≤ 9223372036854775807; rotate_left
   · rw [if_neg hs] at hp; cases hp
   rw [if_pos hs] at hp; cases hp; have hz2a := eq_true hs
   have hz2b : decide (acc.size + 1 ≤ 9223372036854775807) = true := decide_eq_true hs
   have hz2c : (9223372036854775807 < acc.size + 1) = False := eq_false (Nat.not_lt.2 hs)
   clear hs; go_wp2; go_ret
   exact ⟨rfl, HB.out⟩
  have b0 : decide ((i : Int) < (l0.length : Int)) = true := decide_eq_true (by omega)
  have b1 : decide (i < l0.length) = true := decide_eq_true hlt
  have p0 : (0 : Int) ≤ (i : Int) := by omega
  have q0 : (i : Int) < (l0.length : Int) := by omega
  obtain ⟨ad, e9, h0, h1, h2⟩ := at_T33 HR0.out (i : Int) p0 q0
  cases e9
  rw [Int.toNat_natCast] at h0 h1 h2
  have hp := HP0.out
  rw [List.drop_eq_getElem_cons hlt, show l0[i] = rd_T33 l0 (i : Int) by simp [rd_T33, List.getD, List.getElem?_eq_getElem hlt], belfryref04_MatchText.go] at hp
  generalize rd_T33 l0 (i : Int) = m at *
  have hx0 := bC HB h0; have hx1 := bC HB h1; have hx2 := bC HB h2; by_cases hm : 1 ≤ m.f0 ∧ m.f0 ≤ 4 ∧ acc.size < 100000000 ∧ m.f1.size < 100000000; rotate_left
  · rw [if_neg hm] at hp; cases hp
  rw [if_pos hm] at hp
  obtain ⟨q, hq, hp⟩ := Option.bind_eq_some_iff.mp hp
  have HQ := Aside0.mk hq; clear hq HP0; by_cases hqs : q.size < 100000000; rotate_left
  · rw [if_neg hqs] at hp; cases hp
  rw [if_pos hqs] at hp; have hop := opB_size m.f0; have hsz := And.intro hm.2.2.1 (And.intro hm.2.2.2 hqs)
  obtain ⟨hsa, hsb, hsc⟩ := hsz
  have d1 : decide (1 ≤ m.f0) = true := decide_eq_true hm.1
  have d4 : decide (m.f0 ≤ 4) = true := decide_eq_true hm.2.1
  have po : (0 : Int) ≤ m.f0 := by omega
  have qo : m.f0 < (ops5.length : Int) := by show m.f0 < 5; omega
  have HM1 := Aside0.mk hm.1; have HM4 := Aside0.mk hm.2.1; clear hm; replace p0 := eq_true p0; replace q0 := eq_true q0; by_cases h00 : i = 0
  ·
   skip
   have c2 : (⟨#[44, 32]⟩ : ByteArray).size = 2 := rfl
   rw [if_pos (by simp [h00])] at hp
   have HP : Aside0 (belfryref04_MatchText.go k (l0.drop (i + 1)) (decide (i + 1 = 0)) (((acc ++ m.f1) ++ opB m.f0) ++ q) = some r) := ⟨by rw [decide_eq_false (by omega)]; exact hp⟩
   have b2 : decide ((0 : Int) < (i : Int)) = false := decide_eq_false (by omega)
   have b3 : decide (0 < i) = false := decide_eq_false (by omega)
   clear h00
   have s1 : acc.size + m.f1.size ≤ 9223372036854775807 := by first | omega | (simp only [ByteArray.size_append]; omega)
   have s1a := eq_true s1
   have s1b : decide (acc.size + m.f1.size ≤ 9223372036854775807) = true := decide_eq_true s1
   have s1c : (9223372036854775807 < acc.size + m.f1.size) = False := eq_false (Nat.not_lt.2 s1)
   have s1d := s1c
   try simp only [ByteArray.size_append', ByteArray.size_mk', List.size_toArray, List.length_cons, List.length_nil, Nat.zero_add, Nat.reduceAdd] at s1d
   clear s1
   have s2 : (acc ++ m.f1).size + (opB m.f0).size ≤ 9223372036854775807 := by first | omega | (simp only [ByteArray.size_append]; omega)
   have s2a := eq_true s2
   have s2b : decide ((acc ++ m.f1).size + (opB m.f0).size ≤ 9223372036854775807) = true := decide_eq_true s2
   have s2c : (9223372036854775807 < (acc ++ m.f1).size + (opB m.f0).size) = False := eq_false (Nat.not_lt.2 s2)
   have s2d := s2c
   try simp only [ByteArray.size_append', ByteArray.size_mk', List.size_toArray, List.length_cons, List.length_nil, Nat.zero_add, Nat.reduceAdd] at s2d
   clear s2
   have s3 : ((acc ++ m.f1) ++ opB m.f0).size + q.size ≤ 9223372036854775807 := by first | omega | (simp only [ByteArray.size_append]; omega)
   have s3a := eq_true s3
   have s3b : decide (((acc ++ m.f1) ++ opB m.f0).size + q.size ≤ 9223372036854775807) = true := decide_eq_true s3
   have s3c : (9223372036854775807 < ((acc ++ m.f1) ++ opB m.f0).size + q.size) = False := eq_false (Nat.not_lt.2 s3)
   have s3d := s3c
   try simp only [ByteArray.size_append', ByteArray.size_mk', List.size_toArray, List.length_cons, List.length_nil, Nat.zero_add, Nat.reduceAdd] at s3d
   clear s3; clear hsa hsb hsc hqs hop c2 hp
   have HB1 : Aside0 (Below w.heap.size w (wr.alloc (.cells #[.string (⟨#[]⟩ : ByteArray), .string (⟨#[61]⟩ : ByteArray), .string (⟨#[33, 61]⟩ : ByteArray), .string (⟨#[61, 126]⟩ : ByteArray), .string (⟨#[33, 126]⟩ : ByteArray)] 9))) := ⟨below_alloc HB.out _⟩
   have hy0 := (HB1.out.cell (World.block_lt_of_cell? w _ h0)).trans h0; have hy1 := (HB1.out.cell (World.block_lt_of_cell? w _ h1)).trans h1; have hy2 := (HB1.out.cell (World.block_lt_of_cell? w _ h2)).trans h2
   have hy5 : (wr.alloc (.cells #[.string (⟨#[]⟩ : ByteArray), .string (⟨#[61]⟩ : ByteArray), .string (⟨#[33, 61]⟩ : ByteArray), .string (⟨#[61, 126]⟩ : ByteArray), .string (⟨#[33, 126]⟩ : ByteArray)] 9)).cell? ⟨wr.heap.size, m.f0.toNat, none⟩ = some (.string (opB m.f0)) := op_cell wr m.f0 HM1.out HM4.out
   have po5 : (m.f0 < 5) = True := eq_true (by have := HM4.out; omega)
   replace po := eq_true po; clear HB qo
   go_upto_region 10 with (fail)
   clear hx0 hx1 hx2 hy0 hy1 hy2 hy5 po po5
   refine start_ (n := 17) (S := fun w' => Below w.heap.size w w') (ds := []) (bA 17 0) (by kernel_rfl) rfl rfl (below_drew1 HB1.out) (fun hHeld => ?_)
   refine with_tabW belfryref04_MatchText.tab10 belfryref04_MatchText.bits10 (fun HT_ HW_ => ?_)
   generalize (wr.alloc (.cells #[.string (⟨#[]⟩ : ByteArray), .string (⟨#[61]⟩ : ByteArray), .string (⟨#[33, 61]⟩ : ByteArray), .string (⟨#[61, 126]⟩ : ByteArray), .string (⟨#[33, 126]⟩ : ByteArray)] 9)).drew = W0 at hHeld ⊢
   refine purA 0 (some 38) (bA 17 1) HT_ ?_
   refine purA 1 (some 39) (bA 17 3) HT_ ?_
   refine purA 2 (some 40) (bA 17 7) HT_ ?_
   refine purA 3 (some 41) (bA 17 15) HT_ ?_
   refine purA 4 (some 42) (bA 17 31) HT_ ?_
   refine take_ (i := 5) (N := some 43) (v := ?_) (a' := ?_) (bA 17 63) rfl rfl (take_ofW HT_.out HW_.out (by kernel_rfl)) (fun _ _ _ h => h) (Or.inl ⟨by rfl, ?_⟩) hHeld ?_ ?_
   rotate_left
   ·
    rintro w' hw
    have z0 := (hw.cell (World.block_lt_of_cell? w _ h0)).trans h0; have z1 := (hw.cell (World.block_lt_of_cell? w _ h1)).trans h1; have z2 := (hw.cell (World.block_lt_of_cell? w _ h2)).trans h2; go_simp; with_reducible rfl
   rotate_left
   · simp only [Act.put, List.setIfInBounds_toArray, List.set_cons_zero, List.set_cons_succ, i64_w, i32_w]; rfl
   refine purA 6 (some 44) (bA 17 127) HT_ ?_
   refine purA 7 (some 45) (bA 17 255) HT_ ?_
   refine purA 8 (some 46) (bA 17 511) HT_ ?_
   refine purA 9 (some 47) (bA 17 1023) HT_ ?_
   refine purA 10 (some 48) (bA 17 2047) HT_ ?_
   refine purA 11 (some 49) (bA 17 4095) HT_ ?_
   refine purA 12 (some 50) (bA 17 8191) HT_ ?_
   refine take_ (i := 13) (N := some 51) (v := ?_) (a' := ?_) (bA 17 16383) rfl rfl (take_ofW HT_.out HW_.out (by kernel_rfl)) (fun _ _ _ h => h) (Or.inl ⟨by rfl, ?_⟩) hHeld ?_ ?_
   rotate_left
   ·
    rintro w' hw
    have z0 := (hw.cell (World.block_lt_of_cell? w _ h0)).trans h0; have z1 := (hw.cell (World.block_lt_of_cell? w _ h1)).trans h1; have z2 := (hw.cell (World.block_lt_of_cell? w _ h2)).trans h2; go_simp; with_reducible rfl
   rotate_left
   · simp only [Act.put, List.setIfInBounds_toArray, List.set_cons_zero, List.set_cons_succ, i64_w, i32_w]; rfl
   refine one_ (i := 14) (N := some 52) (bA 17 32767) rfl rfl (one_of HT_.out (by kernel_rfl)) (by decide) (fun K hK => ?_)
   refine goes_ Tryz.func110 (by kernel_rfl) rfl #[.string m.f2] (by rfl) rfl rfl (by (try simp only [List.map_toArray, List.map_cons, List.map_nil]); first | done | rfl) ?_
   refine (belfryref04_Quote.calls k m.f2 q _ HQ.out).mono ?_
   rintro e w2 ⟨rfl, hb2⟩
   refine ⟨_, rfl, ?_⟩
   refine hK.out _ _ (below_step hHeld hb2) (fun hHeld => ?_)
   clear hK K hb2
   refine norm_ (a' := ?_) ?_ ?_
   rotate_left
   ·
    show Act.put _ (some 52) _ = _
    simp only [Act.put, List.setIfInBounds_toArray, List.set_cons_zero, List.set_cons_succ, i64_w, i32_w]; rfl
   refine purA 15 (some 53) (bA 17 65535) HT_ ?_
   refine purA 16 (some 3) (bA 17 131071) HT_ ?_
   refine done_ (done_of HT_.out (by kernel_rfl)) ?_
   have HB2 := Aside0.mk hHeld; clear hHeld; go_wp2
   go_roundw
   case measure => simp [intOf]; omega
   case rel => exact ⟨i + 1, _, hlt, rfl, by go_num, HP, HB2⟩
  skip
  have c2 : (⟨#[44, 32]⟩ : ByteArray).size = 2 := rfl
  rw [if_neg (by simp [h00])] at hp
  have HP : Aside0 (belfryref04_MatchText.go k (l0.drop (i + 1)) (decide (i + 1 = 0)) ((((acc ++ (⟨#[44, 32]⟩ : ByteArray)) ++ m.f1) ++ opB m.f0) ++ q) = some r) := ⟨by rw [decide_eq_false (by omega)]; exact hp⟩
  have b2 : decide ((0 : Int) < (i : Int)) = true := decide_eq_true (by omega)
  have b3 : decide (0 < i) = true := decide_eq_true (by omega)
  have hz2 : acc.size + 2 ≤ 9223372036854775807 := by omega
  have hz2a := eq_true hz2
  have hz2b : decide (acc.size + 2 ≤ 9223372036854775807) = true := decide_eq_true hz2
  have hz2c : (9223372036854775807 < acc.size + 2) = False := eq_false (Nat.not_lt.2 hz2)
  clear hz2
  have s1 : (acc ++ (⟨#[44, 32]⟩ : ByteArray)).size + m.f1.size ≤ 9223372036854775807 := by first | omega | (simp only [ByteArray.size_append]; omega)
  have s1a := eq_true s1
  have s1b : decide ((acc ++ (⟨#[44, 32]⟩ : ByteArray)).size + m.f1.size ≤ 9223372036854775807) = true := decide_eq_true s1
  have s1c : (9223372036854775807 < (acc ++ (⟨#[44, 32]⟩ : ByteArray)).size + m.f1.size) = False := eq_false (Nat.not_lt.2 s1)
  have s1d := s1c
  try simp only [ByteArray.size_append', ByteArray.size_mk', List.size_toArray, List.length_cons, List.length_nil, Nat.zero_add, Nat.reduceAdd] at s1d
  clear s1
  have s2 : ((acc ++ (⟨#[44, 32]⟩ : ByteArray)) ++ m.f1).size + (opB m.f0).size ≤ 9223372036854775807 := by first | omega | (simp only [ByteArray.size_append]; omega)
  have s2a := eq_true s2
  have s2b : decide (((acc ++ (⟨#[44, 32]⟩ : ByteArray)) ++ m.f1).size + (opB m.f0).size ≤ 9223372036854775807) = true := decide_eq_true s2
  have s2c : (9223372036854775807 < ((acc ++ (⟨#[44, 32]⟩ : ByteArray)) ++ m.f1).size + (opB m.f0).size) = False := eq_false (Nat.not_lt.2 s2)
  have s2d := s2c
  try simp only [ByteArray.size_append', ByteArray.size_mk', List.size_toArray, List.length_cons, List.length_nil, Nat.zero_add, Nat.reduceAdd] at s2d
  clear s2
  have s3 : (((acc ++ (⟨#[44, 32]⟩ : ByteArray)) ++ m.f1) ++ opB m.f0).size + q.size ≤ 9223372036854775807 := by first | omega | (simp only [ByteArray.size_append]; omega)
  have s3a := eq_true s3
  have s3b : decide ((((acc ++ (⟨#[44, 32]⟩ : ByteArray)) ++ m.f1) ++ opB m.f0).size + q.size ≤ 9223372036854775807) = true := decide_eq_true s3
  have s3c : (9223372036854775807 < (((acc ++ (⟨#[44, 32]⟩ : ByteArray)) ++ m.f1) ++ opB m.f0).size + q.size) = False := eq_false (Nat.not_lt.2 s3)
  have s3d := s3c
  try simp only [ByteArray.size_append', ByteArray.size_mk', List.size_toArray, List.length_cons, List.length_nil, Nat.zero_add, Nat.reduceAdd] at s3d
  clear s3; clear hsa hsb hsc hqs hop c2 hp
  have HB1 : Aside0 (Below w.heap.size w (wr.alloc (.cells #[.string (⟨#[]⟩ : ByteArray), .string (⟨#[61]⟩ : ByteArray), .string (⟨#[33, 61]⟩ : ByteArray), .string (⟨#[61, 126]⟩ : ByteArray), .string (⟨#[33, 126]⟩ : ByteArray)] 9))) := ⟨below_alloc HB.out _⟩
  have hy0 := (HB1.out.cell (World.block_lt_of_cell? w _ h0)).trans h0; have hy1 := (HB1.out.cell (World.block_lt_of_cell? w _ h1)).trans h1; have hy2 := (HB1.out.cell (World.block_lt_of_cell? w _ h2)).trans h2
  have hy5 : (wr.alloc (.cells #[.string (⟨#[]⟩ : ByteArray), .string (⟨#[61]⟩ : ByteArray), .string (⟨#[33, 61]⟩ : ByteArray), .string (⟨#[61, 126]⟩ : ByteArray), .string (⟨#[33, 126]⟩ : ByteArray)] 9)).cell? ⟨wr.heap.size, m.f0.toNat, none⟩ = some (.string (opB m.f0)) := op_cell wr m.f0 HM1.out HM4.out
  have po5 : (m.f0 < 5) = True := eq_true (by have := HM4.out; omega)
  replace po := eq_true po; clear HB qo
  go_upto_region 10 with (fail)
  clear hx0 hx1 hx2 hy0 hy1 hy2 hy5 po po5
  refine start_ (n := 17) (S := fun w' => Below w.heap.size w w') (ds := []) (bA 17 0) (by kernel_rfl) rfl rfl (below_drew1 HB1.out) (fun hHeld => ?_)
  refine with_tabW belfryref04_MatchText.tab10 belfryref04_MatchText.bits10 (fun HT_ HW_ => ?_)
  generalize (wr.alloc (.cells #[.string (⟨#[]⟩ : ByteArray), .string (⟨#[61]⟩ : ByteArray), .string (⟨#[33, 61]⟩ : ByteArray), .string (⟨#[61, 126]⟩ : ByteArray), .string (⟨#[33, 126]⟩ : ByteArray)] 9)).drew = W0 at hHeld ⊢
  refine purA 0 (some 38) (bA 17 1) HT_ ?_
  refine purA 1 (some 39) (bA 17 3) HT_ ?_
  refine purA 2 (some 40) (bA 17 7) HT_ ?_
  refine purA 3 (some 41) (bA 17 15) HT_ ?_
  refine purA 4 (some 42) (bA 17 31) HT_ ?_
  refine take_ (i := 5) (N := some 43) (v := ?_) (a' := ?_) (bA 17 63) rfl rfl (take_ofW HT_.out HW_.out (by kernel_rfl)) (fun _ _ _ h => h) (Or.inl ⟨by rfl, ?_⟩) hHeld ?_ ?_
  rotate_left
  ·
   rintro w' hw
   have z0 := (hw.cell (World.block_lt_of_cell? w _ h0)).trans h0; have z1 := (hw.cell (World.block_lt_of_cell? w _ h1)).trans h1; have z2 := (hw.cell (World.block_lt_of_cell? w _ h2)).trans h2; go_simp; with_reducible rfl
  rotate_left
  · simp only [Act.put, List.setIfInBounds_toArray, List.set_cons_zero, List.set_cons_succ, i64_w, i32_w]; rfl
  refine purA 6 (some 44) (bA 17 127) HT_ ?_
  refine purA 7 (some 45) (bA 17 255) HT_ ?_
  refine purA 8 (some 46) (bA 17 511) HT_ ?_
  refine purA 9 (some 47) (bA 17 1023) HT_ ?_
  refine purA 10 (some 48) (bA 17 2047) HT_ ?_
  refine purA 11 (some 49) (bA 17 4095) HT_ ?_
  refine purA 12 (some 50) (bA 17 8191) HT_ ?_
  refine take_ (i := 13) (N := some 51) (v := ?_) (a' := ?_) (bA 17 16383) rfl rfl (take_ofW HT_.out HW_.out (by kernel_rfl)) (fun _ _ _ h => h) (Or.inl ⟨by rfl, ?_⟩) hHeld ?_ ?_
  rotate_left
  ·
   rintro w' hw
   have z0 := (hw.cell (World.block_lt_of_cell? w _ h0)).trans h0; have z1 := (hw.cell (World.block_lt_of_cell? w _ h1)).trans h1; have z2 := (hw.cell (World.block_lt_of_cell? w _ h2)).trans h2; go_simp; with_reducible rfl
  rotate_left
  · simp only [Act.put, List.setIfInBounds_toArray, List.set_cons_zero, List.set_cons_succ, i64_w, i32_w]; rfl
  refine one_ (i := 14) (N := some 52) (bA 17 32767) rfl rfl (one_of HT_.out (by kernel_rfl)) (by decide) (fun K hK => ?_)
  refine goes_ Tryz.func110 (by kernel_rfl) rfl #[.string m.f2] (by rfl) rfl rfl (by (try simp only [List.map_toArray, List.map_cons, List.map_nil]); first | done | rfl) ?_
  refine (belfryref04_Quote.calls k m.f2 q _ HQ.out).mono ?_
  rintro e w2 ⟨rfl, hb2⟩
  refine ⟨_, rfl, ?_⟩
  refine hK.out _ _ (below_step hHeld hb2) (fun hHeld => ?_)
  clear hK K hb2
  refine norm_ (a' := ?_) ?_ ?_
  rotate_left
  ·
   show Act.put _ (some 52) _ = _
   simp only [Act.put, List.setIfInBounds_toArray, List.set_cons_zero, List.set_cons_succ, i64_w, i32_w]; rfl
  refine purA 15 (some 53) (bA 17 65535) HT_ ?_
  refine purA 16 (some 3) (bA 17 131071) HT_ ?_
  refine done_ (done_of HT_.out (by kernel_rfl)) ?_
  have HB2 := Aside0.mk hHeld; clear hHeld; go_wp2
  go_roundw
  case measure => simp [intOf]; omega
  case rel => exact ⟨i + 1, _, hlt, rfl, by go_num, HP, HB2⟩
end Go.Proofs.YtkedidjjhhjdbaaGreatDoor.Pr
