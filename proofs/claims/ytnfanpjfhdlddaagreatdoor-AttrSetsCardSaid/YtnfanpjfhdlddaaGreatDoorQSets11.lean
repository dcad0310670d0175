import Derived.Test.YtnfanpjfhdlddaaGreatDoorQSets10
section
set_option linter.unusedVariables false
set_option linter.unusedSimpArgs false
namespace Go.Proofs.YtnfanpjfhdlddaaGreatDoor.Pr
open Go.RowKit Go.Proofs.YtnfanpjfhdlddaaGreatDoorW.PrintWords Go.Proofs.YtnfanpjfhdlddaaGreatDoorW.PrintLast Go.Proofs.YtnfanpjfhdlddaaGreatDoorW.PrintMore
def ltK (a b : S45) : Bool := Op.bytesLess (keyL a) (keyL b)
theorem ltK_irrefl (a : S45) : ltK a a = false := bytesLess_irrefl _
theorem ltK_trans {a b c : S45} (h : ltK a b = true) (h' : ltK b c = true) : ltK a c = true := less_trans _ _ _ h h'
theorem ltK_ntrans {a b c : S45} (h : ltK a b = false) (h' : ltK b c = false) : ltK a c = false := less_ntrans _ _ _ h h'
theorem ltK_asym {a b : S45} (h : ltK a b = true) : ltK b a = false := by
 cases h' : ltK b a with
 | false => rfl
 | true => have := ltK_trans h h'; rw [ltK_irrefl] at this; cases this
theorem ltK_total {a b : S45} (h : ltK b a = false) (hne : keyL a ≠ keyL b) : ltK a b = true := by
 have := bytesLess_total (keyL b) (keyL a)
 unfold ltK at *
 rw [← this, h, beq_eq_false_iff_ne.2 (fun e => hne e.symm)]
 rfl
def pos (x : S45) (m : List S45) : Nat → Nat
  | 0 => 0
  | j + 1 => if ltK x (rd_T45 m (j : Int)) = true then pos x m j else j + 1
theorem pos_le (x : S45) (m : List S45) : ∀ j, pos x m j ≤ j
 | 0 => Nat.le_refl _
 | j + 1 => by
  rw [pos]; split
  ·
   exact Nat.le_trans (pos_le x m j) (Nat.le_succ _)
  ·
   exact Nat.le_refl _
theorem pos_before (x : S45) (m : List S45) : ∀ j, pos x m j = 0 ∨ ltK x (rd_T45 m ((pos x m j - 1 : Nat) : Int)) = false
 | 0 => .inl rfl
 | j + 1 => by
  rw [pos]; split
  ·
   exact pos_before x m j
  ·
   rename_i h
   right
   rw [Nat.add_sub_cancel]
   exact Bool.eq_false_iff.2 h
theorem pos_behind (x : S45) (m : List S45) : ∀ j i, pos x m j ≤ i → i < j → ltK x (rd_T45 m (i : Int)) = true
 | 0, _, _, h => absurd h (by omega)
 | j + 1, i, h1, h2 => by
  rw [pos] at h1
  split at h1
  ·
   rename_i h
   by_cases e : i = j
   ·
    subst e; exact h
   ·
    exact pos_behind x m j i h1 (by omega)
  ·
   omega
def ins (x : S45) (m : List S45) : List S45 := m.take (pos x m m.length) ++ [x] ++ m.drop (pos x m m.length)
theorem ins_len (x : S45) (m : List S45) : (ins x m).length = m.length + 1 := by
 have := pos_le x m m.length
 simp [ins]; omega
theorem ins_perm (x : S45) (m : List S45) : (ins x m).Perm (x :: m) := by
 unfold ins
 have h : (m.take (pos x m m.length) ++ [x] ++ m.drop (pos x m m.length)).Perm ([x] ++ (m.take (pos x m m.length) ++ m.drop (pos x m m.length))) := by
  rw [List.append_assoc]
  have := List.perm_append_comm_assoc (m.take (pos x m m.length)) [x] (m.drop (pos x m m.length))
  exact this
 rw [List.take_append_drop] at h
 exact h
abbrev Srt (m : List S45) : Prop := m.Pairwise fun a b => ltK b a = false
theorem ins_sorted (x : S45) (m : List S45) (hm : Srt m) : Srt (ins x m) := by
 have hp := pos_le x m m.length
 have hb := pos_before x m m.length
 have hh := pos_behind x m m.length
 unfold ins
 generalize pos x m m.length = p at *
 have hd : ∀ b ∈ m.drop p, ltK b x = false := fun b hbm => by
  obtain ⟨i, hi, e⟩ := List.getElem_of_mem hbm
  rw [List.length_drop] at hi
  rw [List.getElem_drop] at e
  have := hh (p + i) (by omega) (by omega)
  rw [rd_at m (p + i) (by omega), e] at this
  exact ltK_asym this
 have ht : ∀ a ∈ m.take p, ltK x a = false := fun a ham => by
  obtain ⟨i, hi, e⟩ := List.getElem_of_mem ham
  rw [List.length_take] at hi
  rw [List.getElem_take] at e
  rcases hb with h0 | hb
  ·
   omega
  ·
   rw [rd_at m (p - 1) (by omega)] at hb
   by_cases hip : i = p - 1
   ·
    subst hip; rw [e] at hb; exact hb
   ·
    have := List.pairwise_iff_getElem.1 hm i (p - 1) (by omega) (by omega) (by omega)
    rw [e] at this
    exact ltK_ntrans hb this
 rw [List.append_assoc]
 refine List.pairwise_append.2 ⟨hm.sublist (List.take_sublist _ _), List.pairwise_append.2 ⟨List.pairwise_singleton _ _, hm.sublist (List.drop_sublist _ _), fun a ha b hb' => ?_⟩, fun a ha b hb' => ?_⟩
 ·
  rw [List.mem_singleton] at ha; subst ha; exact hd b hb'
 ·
  rcases List.mem_append.1 hb' with h | h
  ·
   rw [List.mem_singleton] at h; subst h; exact ht a ha
  ·
   have := hm
   rw [← List.take_append_drop p m] at this
   exact (List.pairwise_append.1 this).2.2 a ha b h
def insAll : List S45 → List S45 → List S45
  | m, [] => m
  | m, x :: l => insAll (ins x m) l
theorem insAll_perm : ∀ (l m : List S45), (insAll m l).Perm (m ++ l)
 | [], m => by rw [insAll, List.append_nil]
 | x :: l, m => by
  rw [insAll]
  refine (insAll_perm l (ins x m)).trans ?_
  refine ((ins_perm x m).append_right l).trans ?_
  exact List.perm_middle.symm
theorem insAll_sorted : ∀ (l m : List S45), Srt m → Srt (insAll m l)
 | [], m, h => h
 | x :: l, m, h => insAll_sorted l (ins x m) (ins_sorted x m h)
theorem ref_l1 (l : List S45) (hl : l.length ≤ 16) (m : List S45) (hm : m.length ≤ 16) (i : Nat) (hi : i < l.length) (v : List S45 × Int) (K : Nat) :
  ∀ (j : Nat), j ≤ m.length → (∀ k, K ≤ k → belfryref04_Make.l0 k l (m.take (pos l[i] m j) ++ [l[i]] ++ m.drop (pos l[i] m j)) ((i + 1 : Nat) : Int) = some v) → ∀ k, K + j + 1 ≤ k → belfryref04_Make.l1 k l m (i : Int) (j : Int) = some v
 | _, _, _, 0, hk => absurd hk (by omega)
 | 0, hj, hn, k + 1, hk => by
  have := hn k (by omega)
  rw [pos] at this
  rw [belfryref04_Make.l1, if_neg (by omega), if_pos (by omega), if_pos (by omega), Option.bind_some, if_pos (by simp), Option.bind_some, if_pos (by omega), if_pos (by omega), if_pos (by simp), Option.bind_some, Option.bind_some, if_pos (by simp; omega), wrap_small (n := (i : Int) + 1) (by omega) (by omega), rd_at l i hi]
  exact this
 | j + 1, hj, hn, k + 1, hk => by
  have e1 : wrap64 (((j + 1 : Nat) : Int) - 1) = ((j : Nat) : Int) := by rw [wrap_small (by omega) (by omega)]; omega
  rw [belfryref04_Make.l1, if_pos (by omega), e1, if_pos (by omega), if_pos (by omega), if_pos (by omega), if_pos (by omega), rd_at l i hi]
  simp only [Lib.toList_data]
  by_cases h : ltK l[i] (rd_T45 m (j : Int)) = true
  ·
   have hn' : ∀ k, K ≤ k → belfryref04_Make.l0 k l (m.take (pos l[i] m j) ++ [l[i]] ++ m.drop (pos l[i] m j)) ((i + 1 : Nat) : Int) = some v := fun k hk => by
    have := hn k hk
    rw [pos, if_pos h] at this
    exact this
   rw [if_pos (show Op.bytesLess l[i].f0.data.toList (rd_T45 m (j : Int)).f0.data.toList = true from h)]
   exact ref_l1 l hl m hm i hi v K j (by omega) hn' k (by omega)
  ·
   have := hn k (by omega)
   rw [pos, if_neg h] at this
   have ht : (m.take (j + 1)).length = j + 1 := by rw [List.length_take]; omega
   have hd : (m.drop (j + 1)).length = m.length - (j + 1) := List.length_drop ..
   rw [if_neg (show ¬ Op.bytesLess l[i].f0.data.toList (rd_T45 m (j : Int)).f0.data.toList = true from h), if_pos (by omega), if_pos (by omega), Option.bind_some, Int.toNat_natCast, if_pos (by rw [ht]; simp; omega), Option.bind_some, if_pos (by rw [List.nil_append, ht]; omega), Option.bind_some, Option.bind_some, if_pos (by simp only [List.nil_append, List.length_append, ht, hd, List.length_cons, List.length_nil]; omega), wrap_small (n := (i : Int) + 1) (by omega) (by omega)]
   exact this
theorem ref_l0 (l : List S45) (hl : l.length ≤ 16) : ∀ (n i : Nat) (m : List S45), i + n = l.length → m.length = i →
  Ev (fun k => belfryref04_Make.l0 k l m (i : Int)) (if faultOf (l.drop i) ≠ 0 then ([], faultOf (l.drop i)) else if dupAdj (insAll m (l.drop i)) then ([], 6) else (insAll m (l.drop i), 0))
 | 0, i, m, hn, hm => by
  have hd : l.drop i = [] := List.drop_of_length_le (by omega)
  refine ⟨m.length + 3, fun k hk => ?_⟩
  obtain ⟨k, rfl⟩ : ∃ j, k = j + 1 := ⟨k - 1, by omega⟩
  dsimp only
  rw [belfryref04_Make.l0, if_neg (by omega), hd, if_neg (by simp [faultOf]), insAll]
  have := ref_l2 m (by omega) (m.length - 1) 1 (by omega) (by omega) k (by omega)
  rw [show ((1 : Nat) : Int) = 1 from rfl] at this
  rw [this]
  cases m with
  | nil => simp [dupAdj]
  | cons a t => simp
 | n + 1, i, m, hn, hm => by
  have hi : i < l.length := by omega
  obtain ⟨K, hK⟩ := ref_l0 l hl n (i + 1) (ins l[i] m) (by omega) (by rw [ins_len]; omega)
  obtain ⟨V, hV⟩ := ref_value_eq l[i].f1
  refine ⟨K + V + m.length + 80, fun k hk => ?_⟩
  obtain ⟨k, rfl⟩ : ∃ j, k = j + 1 := ⟨k - 1, by omega⟩
  dsimp only
  rw [belfryref04_Make.l0, if_pos (by omega), if_pos (by omega), rd_at l i hi, ref_key_eq _ k (by omega), Option.bind_some, drop_cons l i hi, faultOf]
  cases hk1 : keyB l[i].f0 with
  | false => simp
  | true =>
   have hV' := hV k (by omega)
   dsimp only at hV'
   rw [if_pos rfl, hV', Option.bind_some]
   cases hv : valB l[i].f1 with
   | false => simp
   | true =>
    rw [if_pos rfl]
    refine (ref_l1 l hl m (by omega) i hi _ K m.length (Nat.le_refl _) (fun k hk => hK k hk) k (by omega)).trans ?_
    simp only [if_true, insAll]
    rfl
theorem strict_of (m : List S45) (hm : Srt m) (h : dupAdj m = false) : m.Pairwise fun a b => ltK a b = true := by
 induction m with
 | nil => exact List.Pairwise.nil
 | cons x t ih =>
  cases t with
  | nil => exact List.pairwise_singleton _ _
  | cons y t =>
   rw [dupAdj, Bool.or_eq_false_iff] at h
   obtain ⟨h1, h2⟩ := h
   have hm' := List.pairwise_cons.1 hm
   have iht := ih hm'.2 h2
   have hxy : ltK x y = true := ltK_total (hm'.1 y (List.mem_cons_self ..)) (beq_eq_false_iff_ne.1 h1)
   refine List.pairwise_cons.2 ⟨fun b hb => ?_, iht⟩
   rcases List.mem_cons.1 hb with rfl | hb
   ·
    exact hxy
   ·
    exact ltK_trans hxy ((List.pairwise_cons.1 iht).1 b hb)
theorem ne_of_lt {a b : S45} (h : ltK a b = true) : keyL a ≠ keyL b := fun e => by
 unfold ltK at h
 rw [e, bytesLess_irrefl] at h
 cases h
theorem dup_of_ne : ∀ m : List S45, (m.Pairwise fun a b => keyL a ≠ keyL b) → dupAdj m = false
 | [], _ => rfl
 | [_], _ => rfl
 | x :: y :: t, h => by
  have h' := List.pairwise_cons.1 h
  rw [dupAdj, dup_of_ne (y :: t) h'.2, beq_eq_false_iff_ne.2 (h'.1 y (List.mem_cons_self ..))]
  rfl
theorem dup_perm {m m' : List S45} (hp : m.Perm m') (hm : Srt m) (h : dupAdj m = false) : dupAdj m' = false := by
 have h1 := (strict_of m hm h).imp ne_of_lt
 exact dup_of_ne m' ((hp.pairwise_iff (fun {a b} (e : keyL a ≠ keyL b) => e.symm)).1 h1)
theorem same_sorted {m m' : List S45} (hp : m.Perm m') (hm : Srt m) (hm' : Srt m') (h : dupAdj m = false) : m = m' :=
 hp.eq_of_pairwise (fun a b _ _ h1 h2 => absurd h2 (by rw [ltK_asym h1]; simp)) (strict_of m hm h) (strict_of m' hm' (dup_perm hp hm h))
theorem sorted_srt (l : List S45) : Srt (sorted45 l) := by
 obtain ⟨_, h2, h3⟩ := sorted45_perm l
 refine List.pairwise_iff_getElem.2 fun i j hi hj hij => ?_
 have := h3 i j (Nat.zero_le _) hij (by omega)
 rw [cmpKey_lt] at this
 simp [hi, hj] at this
 exact this
def setOf (l : List S45) : List S45 × Int :=
  if (l.length : Int) > 16 then ([], 7) else if faultOf l ≠ 0 then ([], faultOf l) else if dupAdj (sorted45 l) then ([], 6) else (sorted45 l, 0)
theorem make_eq (l : List S45) : Ev (fun k => attr_Make.f k l) (setOf l) := by
 refine ⟨200, fun k hk => ?_⟩
 dsimp only
 unfold attr_Make.f setOf
 by_cases h : (l.length : Int) > 16
 ·
  rw [if_pos h, if_pos h]
 ·
  rw [if_neg h, if_neg h]
  have := make_l0 l (by omega) l.length 0 (by omega) k (by omega)
  rw [show ((0 : Nat) : Int) = 0 from rfl, List.drop_zero] at this
  exact this
theorem ref_make_eq (l : List S45) : Ev (fun k => belfryref04_Make.f k l) (setOf l) := by
 unfold belfryref04_Make.f setOf
 by_cases h : (l.length : Int) > 16
 ·
  refine ⟨0, fun k _ => ?_⟩
  dsimp only
  rw [if_pos h, if_pos h]
 ·
  obtain ⟨K, hK⟩ := ref_l0 l (by omega) l.length 0 [] (by omega) rfl
  refine ⟨K, fun k hk => ?_⟩
  have := hK k hk
  dsimp only at this ⊢
  rw [show ((0 : Nat) : Int) = 0 from rfl, List.drop_zero] at this
  rw [if_neg h, if_neg h, this]
  have hp : (sorted45 l).Perm (insAll [] l) := (sorted45_perm l).1.trans (insAll_perm l []).symm
  have hs := sorted_srt l
  have hi : Srt (insAll [] l) := insAll_sorted l [] List.Pairwise.nil
  cases hd : dupAdj (sorted45 l) with
  | false =>
   rw [dup_perm hp hs hd, ← same_sorted hp hs hi hd]
  | true =>
   cases hd' : dupAdj (insAll [] l) with
   | true => rfl
   | false => rw [dup_perm hp.symm hi hd'] at hd; cases hd
end Go.Proofs.YtnfanpjfhdlddaaGreatDoor.Pr
end
section
set_option linter.unusedVariables false
set_option linter.unusedSimpArgs false
namespace Go.Proofs.YtnfanpjfhdlddaaGreatDoor.Pr
open Go.RowKit Go.Proofs.YtnfanpjfhdlddaaGreatDoorW.PrintWords Go.Proofs.YtnfanpjfhdlddaaGreatDoorW.PrintLast Go.Proofs.YtnfanpjfhdlddaaGreatDoorW.PrintMore
def attr_reader_peek.f (s0_0 : ByteArray) (s0_1 : Int) (s0_2 : Bool) : Option Int := if s0_1 < (s0_0.size : Int) then (if 0 ≤ s0_1 then some (bt s0_0 s0_1) else none) else some 0
set_option maxHeartbeats 8000000 in
set_option maxRecDepth 100000 in
theorem attr_reader_peek.calls (g : Nat) (s0_0 : ByteArray) (s0_1 : Int) (s0_2 : Bool) (r : Int) (w0 w : World) (hI : IsS103 w0 w g s0_0 s0_1 s0_2) (hB : Below w0.heap.size w0 w) (h : attr_reader_peek.f s0_0 s0_1 s0_2 = some r) :
  Calls Tryz.prog 117 #[.pointer (some ⟨g, 0, none⟩)] w fun e w' => e = .returned (.int .u8 r) ∧ Drawn0 w w' := by
 clear hB
 unfold attr_reader_peek.f at h
 obtain ⟨HG, hg⟩ := hI
 have hc0 := cellS103_0 HG
 have hc1 := cellS103_1 HG
 have hc2 := cellS103_2 HG
 have hf0 := blk_frozen HG 0
 have hf1 := blk_frozen HG 1
 have hf2 := blk_frozen HG 2
 clear HG hg
 by_cases c2 : s0_1 < (s0_0.size : Int)
 ·
  rw [if_pos c2] at h
  have c2b0 : decide (s0_1 < (s0_0.size : Int)) = true := decide_eq_true c2
  by_cases c3 : 0 ≤ s0_1
  ·
   rw [if_pos c3] at h
   obtain rfl := Option.some.inj h
   clear h
   have hx4 := bt_at s0_0 s0_1
   replace c2 := eq_true c2
   replace c3 := eq_true c3
   go_enter Tryz.func117, Tryz.ntmps117
   go_wp2
   repeat (go_quiet (fail); try go_wp2)
   go_ret
   first | exact ⟨rfl, ⟨⟨_, rfl⟩⟩⟩ | exact ⟨rfl, ⟨⟨_, World.drewN_drewN _ _ _⟩⟩⟩ | exact ⟨rfl, Drawn0.refl _⟩
  ·
   rw [if_neg c3] at h
   cases h
 ·
  rw [if_neg c2] at h
  obtain rfl := Option.some.inj h
  clear h
  have c2b0 : decide (s0_1 < (s0_0.size : Int)) = false := decide_eq_false c2
  clear c2
  go_enter Tryz.func117, Tryz.ntmps117
  go_wp2
  repeat (go_quiet (fail); try go_wp2)
  go_ret
  first | exact ⟨rfl, ⟨⟨_, rfl⟩⟩⟩ | exact ⟨rfl, ⟨⟨_, World.drewN_drewN _ _ _⟩⟩⟩ | exact ⟨rfl, Drawn0.refl _⟩
end Go.Proofs.YtnfanpjfhdlddaaGreatDoor.Pr
end
