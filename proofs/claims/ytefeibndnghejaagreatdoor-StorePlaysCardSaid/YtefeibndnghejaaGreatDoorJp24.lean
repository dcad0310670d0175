import Derived.Test.YtefeibndnghejaaGreatDoorJp23
import Derived.Test.YtefeibndnghejaaGreatDoorJp18
import Derived.Test.YtefeibndnghejaaGreatDoorJp14
import Derived.Test.YtefeibndnghejaaGreatDoorJp15
import Derived.Lib.ValidLaws
import Derived.Test.YtefeibndnghejaaGreatDoorJp19
import Derived.Test.YtefeibndnghejaaGreatDoorJp16
section
set_option linter.unusedVariables false
set_option linter.unusedSimpArgs false
namespace Go.Proofs.YtefeibndnghejaaGreatDoor.Pr
open Go.RowKit Go.Proofs.YtefeibndnghejaaGreatDoorW.PrintWords Go.Proofs.YtefeibndnghejaaGreatDoorW.PrintLast Go.Proofs.YtefeibndnghejaaGreatDoorW.PrintMore
structure Od where
  k : Int
  r : Rd
  t : Int
structure OpsC (w : World) (A : Option Addr) (xs : List Od) : Prop where
  max : xs.length ≤ 9223372036854775807
  at_ : ∀ j x, xs[j]? = some x → ∃ g o A' c, A = some ⟨g, o, none⟩ ∧ x.r.x.ok ∧ w.rangeAt g (o + j * 42) (opC x.k (x.r.x.cells (.slice A' x.r.a.length c)) x.t).toList ∧ x.r.a.length ≤ c ∧ Kd.C k85 w A' x.r.a.length x.r.a ∧ (0 < x.r.a.length → ∀ ad, A' = some ad → ad.block < w.heap.size)
theorem opC_size (k : Int) {cs : Array Value} (hs : cs.size = 40) (t : Int) : (opC k cs t).size = 42 := by
 simp only [opC, List.size_toArray, List.length_cons, List.length_append, List.length_nil, Array.length_toList, hs]
structure OpOk (k1 k2 kn : Nat) (most : Int) (Inv : List Rd → Prop) (x : Od) (why : Int) : Prop where
  al : x.r.a.length < 4398046511104
  w1 : attr_Right.f k1 x.r.a = some why
  w2 : belfryref04_Right.f k2 x.r.a = some why
  fine : why = 0 → x.r.fine
  self : belfryref04_Same.f kn x.r.a x.r.a = some true
  sm : ∀ R, Inv R → ∃ sm : Rd → Bool, (∀ s ∈ R, belfryref04_Same.f kn x.r.a s.a = some (sm s)) ∧ putE most R x.r why = refE most R x.r sm why
  next : ∀ R, Inv R → Inv (nextR most R x.k x.r x.t why)
  self' : ∀ R, Inv R → ∀ s ∈ R, belfryref04_Same.f kn s.a s.a = some true
theorem nextR_len (most : Int) (R : List Rd) (k : Int) (r : Rd) (t why : Int) : (nextR most R k r t why).length ≤ R.length + 1 := by
 unfold nextR
 split
 ·
  have := keptR_le t R; omega
 ·
  split
  ·
   simp
  ·
   omega
def PlayedPost (w : World) (most : Int) (Inv : List Rd → Prop) (e : Ending) (w' : World) : Prop :=
  e = .returned (.tuple #[.pointer (some ⟨w.heap.size, 0, none⟩), .pointer (some ⟨w.heap.size + 1, 0, none⟩), .bool true]) ∧ ∃ R ver, Pair w' w.heap.size w.heap.size (w.heap.size + 1) most ver R ∧ Inv R ∧ R.length ≤ 100 ∧ 0 ≤ ver ∧ ver ≤ 100 ∧ Below w.heap.size w w'
set_option maxRecDepth 100000 in
set_option maxHeartbeats 8000000 in
theorem played_walk (k1 k2 kn : Nat) (most : Int) (A : Option Addr) (c : Nat) (xs : List Od) (Inv : List Rd → Prop) (w : World) (h1 : 1 ≤ most) (h2 : most ≤ 20000) (hX : OpsC w A xs) (hc : xs.length ≤ c) (hI0 : Inv []) (hok : ∀ x ∈ xs, ∃ why, OpOk k1 k2 kn most Inv x why) (he : EnvW w) :
  Calls Tryz.prog 9 #[.int .i64 most, .slice A xs.length c] w (PlayedPost w most Inv) := by
 have HXS := Aside0.mk hX
 have HOK := Aside0.mk hok
 have HEN := Aside0.mk he
 have HI0 := Aside0.mk hI0
 have hmx := hX.max
 have hu51 := Tryz.underlying51
 clear hX hok he hI0
 obtain ⟨W0, hW0⟩ : ∃ W0, W0 = w.alloc (.cells (stC most (.slice none 0 0) (.map none) (.map none) 0) 81) := ⟨_, rfl⟩
 have hsz0 : W0.heap.size = w.heap.size + 1 := by rw [hW0]; simp
 obtain ⟨W1, hW1⟩ : ∃ W1, W1 = W0.alloc (.cells (rsC most (.slice none 0 0) 0) 31) := ⟨_, rfl⟩
 have hb1 : Below w.heap.size w W1 := hW1 ▸ hW0 ▸ below_alloc (below_alloc (Below.refl _ _) _) _
 have hPair : Pair W1 w.heap.size w.heap.size (w.heap.size + 1) most 0 [] := by
  refine ⟨fun q => q = w.heap.size, fun _ => False, (hW0 ▸ st_new most w w.heap.size (Nat.le_refl _) : St W0 _ _ _ _ _ _).below (hW1 ▸ below_alloc (Below.refl _ _) _), ⟨.slice none 0 0, ?_, Kd.R_nil _ _ _ _ _, id, Nat.le_succ _, fun _ h => h.elim, fun _ h => by cases h⟩, fun q hq hn => hn.elim id (fun e => by omega)⟩
  have := blk_new W0 (.cells (rsC most (.slice none 0 0) 0) 31)
  rw [hW1, ← hsz0]
  exact this
 have HW0 := Aside0.mk hW0
 have HW1 := Aside0.mk hW1
 have HP := Aside0.mk hPair
 have HB1 := Aside0.mk hb1
 have HS0 := Aside0.mk hsz0
 clear hW0 hW1 hPair hb1 hsz0
 go_enter Tryz.func9, Tryz.ntmps9
 go_wp2_with (first | (go_at_call 34; refine (new_some most w h1 h2).mono ?_; rintro e w' ⟨rfl, rfl⟩; rw [← HW0.out]) | (go_at_call 35; refine (rnew_some most W0 h1 h2).mono ?_; rintro e w' ⟨rfl, rfl⟩; rw [← HW1.out, HS0.out]))
 go_loopw [9] (fun v9 wr => ∃ i : Nat, i ≤ xs.length ∧ i ≤ 100 ∧ v9 = .int .i64 i ∧ Aside0 ((∃ R ver, Pair wr w.heap.size w.heap.size (w.heap.size + 1) most ver R ∧ Inv R ∧ R.length ≤ i ∧ 0 ≤ ver ∧ ver ≤ i) ∧ Below w.heap.size w wr)) (fun v9 _ => 100 - (intOf v9).toNat)
 case atStart => exact ⟨0, Nat.zero_le _, Nat.zero_le _, rfl, ⟨⟨[], 0, HP.out, HI0.out, Nat.le_refl _, by decide, by decide⟩, HB1.out⟩⟩
 case round =>
  obtain ⟨i, hi, hi1, rfl, HR⟩ := hrel
  obtain ⟨⟨R, ver, hp, hinv, hrl, hv0, hv1⟩, hb⟩ := HR.out
  have HPR := Aside0.mk hp
  have HINV := Aside0.mk hinv
  have HRL := Aside0.mk hrl
  have HV0 := Aside0.mk (show 0 ≤ ver ∧ ver ≤ i from ⟨hv0, hv1⟩)
  have HB := Aside0.mk hb
  clear HR hp hinv hrl hv0 hv1 hb
  by_cases hlt : i < xs.length
  ·
   have hbl : ((i : Nat) : Int) < (xs.length : Int) := by omega
   by_cases hlt2 : i < 100
   ·
    have hbl2 : ((i : Nat) : Int) < 100 := by omega
    obtain ⟨x, hx⟩ : ∃ x, x = xs[i] := ⟨_, rfl⟩
    obtain ⟨g0, o0, A', c', hA, hok, hrow, hac, hca, hcb⟩ := HXS.out.at_ i x (by rw [hx]; exact List.getElem?_eq_getElem hlt)
    obtain ⟨why, hO⟩ := HOK.out x (hx ▸ List.getElem_mem hlt)
    subst hA
    have hsx := Rc.size hok (.slice A' x.r.a.length c')
    have hs42 := opC_size x.k hsx x.t
    obtain ⟨ds, hds⟩ : ∃ ds, ds = opC x.k (x.r.x.cells (.slice A' x.r.a.length c')) x.t := ⟨_, rfl⟩
    rw [← hds] at hrow hs42
    have HDS := Aside0.mk hds
    have HROW : Aside0 (wr.rangeAt g0 (o0 + i * 42) ds.toList) := ⟨fun q u hu => (HB.out.cell (World.block_lt_of_cell? w _ (hrow q u hu))).trans (hrow q u hu)⟩
    have HOX := Aside0.mk hO
    have HCA := Aside0.mk (show Kd.C k85 w A' x.r.a.length x.r.a ∧ x.r.a.length ≤ c' ∧ x.r.x.ok from ⟨hca, hac, hok⟩)
    have HCB := Aside0.mk hcb
    have hw : wrap64 ((i : Int) + 1) = (i : Int) + 1 := by unfold wrap64; omega
    clear hca hcb hac hok hrow hds hO hsx hx
    go_wp2_with (refine wpList_load_mid rfl 51 (.tmp 40) rfl g0 (o0 + i * 42) rfl ds.toList _ HROW.out hu51 rfl (by rw [Array.length_toList, hs42]; kernel_rfl) (Aside0.out ?_))
    refine ⟨?_⟩
    go_wp2_with fail
    have hvw := HV0.out
    have hrlw := HRL.out
    obtain ⟨sm, hsm, hE⟩ := HOX.out.sm R HINV.out
    refine (HDS.out ▸ step_walk k1 k2 kn w.heap.size (w.heap.size + 1) most ver R x.k x.t x.r A' c' wr w.heap.size HPR.out HCA.out.2.2 (Kd.C_below HCA.out.1 HB.out) HCA.out.2.1 HOX.out.al why HOX.out.w1 HOX.out.w2 HOX.out.fine sm hsm HOX.out.self hE HCB.out HB.out.size (by omega) (by omega) (env_below HEN.out HB.out)).mono ?_
    rintro e w2 ⟨rfl, ver', hv1, hv2, hp2, hb2⟩
    have hinv2 := HOX.out.next R HINV.out
    have hl2 := nextR_len most R x.k x.r x.t why
    obtain ⟨R2, hR2⟩ : ∃ R2, R2 = nextR most R x.k x.r x.t why := ⟨_, rfl⟩
    rw [← hR2] at hp2 hinv2 hl2
    have HP2 := Aside0.mk hp2
    have HI2 := Aside0.mk hinv2
    have HL2 := Aside0.mk (show R2.length ≤ i + 1 ∧ 0 ≤ ver' ∧ ver' ≤ (i : Int) + 1 from ⟨by omega, by omega, by omega⟩)
    have HB2 := Aside0.mk hb2
    have hselfa : ∀ s ∈ R2, belfryref04_Same.f kn s.a s.a = some true := HOX.out.self' R2 HI2.out
    have HSF := Aside0.mk hselfa
    clear hR2 hv1 hv2 hp2 hb2 hinv2 hl2 hselfa hvw hrlw hsm hE
    go_wp2_with fail
    obtain ⟨F, F', hT⟩ := HP2.out
    obtain ⟨l', hrs⟩ := hT.rs
    have hl2 := HL2.out
    refine (alike_walk kn w.heap.size (w.heap.size + 1) most ver' most R2 F F' w2 w.heap.size w.heap.size l' hT.st hrs HSF.out (by omega)).mono ?_
    rintro e w3 ⟨rfl, hb3⟩
    have HP3 := Aside0.mk (show Pair w3 w.heap.size w.heap.size (w.heap.size + 1) most ver' R2 from ⟨F, F', hT.below hb3⟩)
    have HB3 : Aside0 (Below w.heap.size w w3) := ⟨below_step (HB.out.trans HB2.out) hb3⟩
    clear hT hrs hl2 hb3
    go_wp2
    go_roundw
    case rel => exact ⟨i + 1, by omega, by omega, by simp [hw], ⟨⟨R2, ver', HP3.out, HI2.out, HL2.out.1, HL2.out.2.1, by have := HL2.out.2.2; omega⟩, HB3.out⟩⟩
    case measure => simp [intOf, hw]; omega
   ·
    have hbl2 : ¬ ((i : Nat) : Int) < 100 := by omega
    go_wp2
    exact ⟨rfl, _, by with_unfolding_all rfl, rfl, R, ver, HPR.out, HINV.out, by have := HRL.out; omega, HV0.out.1, by have := HV0.out.2; omega, HB.out⟩
  ·
   have hbl : ¬ ((i : Nat) : Int) < (xs.length : Int) := by omega
   go_wp2
   exact ⟨rfl, _, by with_unfolding_all rfl, rfl, R, ver, HPR.out, HINV.out, by have := HRL.out; omega, HV0.out.1, by have := HV0.out.2; omega, HB.out⟩
set_option maxRecDepth 100000 in
set_option maxHeartbeats 8000000 in
theorem played_none (most : Int) (v : Value) (w : World) (h : most < 1 ∨ 20000 < most) :
  Calls Tryz.prog 9 #[.int .i64 most, v] w fun e w' => e = .returned (.tuple #[.pointer none, .pointer none, .bool true]) ∧ Below w.heap.size w w' := by
 go_enter Tryz.func9, Tryz.ntmps9
 go_wp2_with (first | (go_at_call 34; refine (new_none most w h).mono ?_; rintro e w' ⟨rfl, rfl⟩) | (go_at_call 35; refine (rnew_none most _ h).mono ?_; rintro e w' ⟨rfl, rfl⟩))
 exact ⟨rfl, _, by with_unfolding_all rfl, rfl, Below.refl _ _⟩
end Go.Proofs.YtefeibndnghejaaGreatDoor.Pr
end
section
set_option linter.unusedVariables false
set_option linter.unusedSimpArgs false
namespace Go.Proofs.YtefeibndnghejaaGreatDoor.Pr
open Go.RowKit Go.Proofs.YtefeibndnghejaaGreatDoorW.PrintWords Go.Proofs.YtefeibndnghejaaGreatDoorW.PrintLast Go.Proofs.YtefeibndnghejaaGreatDoorW.PrintMore
theorem played_any (k1 k2 kn : Nat) (most : Int) (A : Option Addr) (c : Nat) (xs : List Od) (Inv : List Rd → Prop) (w : World) (hX : OpsC w A xs) (hc : xs.length ≤ c) (hI0 : Inv []) (hok : ∀ x ∈ xs, ∃ why, OpOk k1 k2 kn most Inv x why) (he : EnvW w) :
  Calls Tryz.prog 9 #[.int .i64 most, .slice A xs.length c] w fun e w' => Below w.heap.size w w' ∧ ((∃ ver R, e = .returned (.tuple #[.pointer (some ⟨w.heap.size, 0, none⟩), .pointer (some ⟨w.heap.size + 1, 0, none⟩), .bool true]) ∧ 1 ≤ most ∧ most ≤ 20000 ∧ Pair w' w.heap.size w.heap.size (w.heap.size + 1) most ver R ∧ Inv R ∧ R.length ≤ 100 ∧ 0 ≤ ver ∧ ver ≤ 100)
   ∨ (e = .returned (.tuple #[.pointer none, .pointer none, .bool true]) ∧ (most < 1 ∨ 20000 < most))) := by
 by_cases h1 : 1 ≤ most
 ·
  by_cases h2 : most ≤ 20000
  ·
   exact (played_walk k1 k2 kn most A c xs Inv w h1 h2 hX hc hI0 hok he).mono fun e w' ⟨he, R, ver, hp, hi, hl, hv, hv', hb⟩ => ⟨hb, .inl ⟨ver, R, he, h1, h2, hp, hi, hl, hv, hv'⟩⟩
  ·
   exact (played_none most _ w (by omega)).mono fun e w' ⟨he, hb⟩ => ⟨hb, .inr ⟨he, by omega⟩⟩
 ·
  exact (played_none most _ w (by omega)).mono fun e w' ⟨he, hb⟩ => ⟨hb, .inr ⟨he, by omega⟩⟩
set_option maxRecDepth 100000 in
set_option maxHeartbeats 8000000 in
theorem plays_walk (k1 k2 kn : Nat) (most : Int) (A : Option Addr) (c : Nat) (xs : List Od) (Inv : List Rd → Prop) (w : World) (hX : OpsC w A xs) (hc : xs.length ≤ c) (hI0 : Inv []) (hok : ∀ x ∈ xs, ∃ why, OpOk k1 k2 kn most Inv x why) (he : EnvW w) :
  Calls Tryz.prog 3 #[.int .i64 most, .slice A xs.length c] w fun e w' => e = .returned (.bool true) ∧ Below w.heap.size w w' := by
 have HX := Aside0.mk hX
 have HOK := Aside0.mk hok
 have HEN := Aside0.mk he
 have HI0 := Aside0.mk hI0
 have HC := Aside0.mk hc
 clear hX hok he hI0 hc
 go_enter Tryz.func3, Tryz.ntmps3
 go_wp2_with fail
 refine (played_any k1 k2 kn most A c xs Inv w HX.out HC.out HI0.out HOK.out HEN.out).mono ?_
 rintro e w2 ⟨hb, h⟩
 have HB := Aside0.mk hb
 obtain ⟨p, q, rfl⟩ : ∃ p q, e = .returned (.tuple #[p, q, .bool true]) := by
  rcases h with ⟨_, _, he, _⟩ | ⟨he, _⟩ <;> exact ⟨_, _, he⟩
 clear hb h
 go_wp2_with fail
 refine (known_walk w2 (env_below HEN.out HB.out)).mono ?_
 rintro e w3 ⟨rfl, hb3⟩
 have HB3 := Aside0.mk (below_step HB.out hb3)
 clear hb3
 go_wp2
 exact ⟨rfl, _, by with_unfolding_all rfl, rfl, HB3.out⟩
end Go.Proofs.YtefeibndnghejaaGreatDoor.Pr
end
section
set_option linter.unusedVariables false
set_option linter.unusedSimpArgs false
namespace Go.Proofs.YtefeibndnghejaaGreatDoor.Pr
open Go.RowKit Go.Proofs.YtefeibndnghejaaGreatDoorW.PrintWords Go.Proofs.YtefeibndnghejaaGreatDoorW.PrintLast Go.Proofs.YtefeibndnghejaaGreatDoorW.PrintMore
theorem wrap_succ {i : Int} (h0 : 0 ≤ i) (h1 : i < 9223372036854775807) : wrap64 (i + 1) = i + 1 := by unfold wrap64; omega
def headB (c : Int) : Bool := (decide (97 ≤ c) && decide (c ≤ 122)) || (decide (65 ≤ c) && decide (c ≤ 90)) || c == 95
def tailB (c : Int) : Bool := headB c || (decide (48 ≤ c) && decide (c ≤ 57)) || c == 46
theorem head_eq (c : Int) (h0 : 0 ≤ c) (h1 : c ≤ 255) : attr_head.f c = some (headB c) := by
 have h : ((List.range 256).all fun n => attr_head.f (n : Int) == some (headB (n : Int))) = true := by kernel_rfl
 have := List.all_eq_true.1 h c.toNat (List.mem_range.2 (by omega))
 rw [Int.toNat_of_nonneg h0] at this
 exact eq_of_beq this
theorem tail_eq (c : Int) (h0 : 0 ≤ c) (h1 : c ≤ 255) : attr_tail.f c = some (tailB c) := by
 have h : ((List.range 256).all fun n => attr_tail.f (n : Int) == some (tailB (n : Int))) = true := by kernel_rfl
 have := List.all_eq_true.1 h c.toNat (List.mem_range.2 (by omega))
 rw [Int.toNat_of_nonneg h0] at this
 exact eq_of_beq this
def allT (s : ByteArray) : Int → Nat → Bool
  | _, 0 => true
  | i, n + 1 => tailB (bt s i) && allT s (i + 1) n
theorem attr_Key_l0 (s : ByteArray) (hs : s.size ≤ 9223372036854775807) : ∀ (n : Nat) (i : Int), 0 ≤ i → i + n = s.size → ∀ k, n < k → attr_Key.l0 k s (s.size : Int) i = some (allT s i n)
 | _, _, _, _, 0, hk => absurd hk (by omega)
 | 0, i, h0, hn, k + 1, hk => by
  rw [attr_Key.l0, if_neg (by omega)]; rfl
 | n + 1, i, h0, hn, k + 1, hk => by
  rw [attr_Key.l0, if_pos (by omega), if_pos h0, if_pos (by omega), tail_eq _ (bt_range s i).1 (bt_range s i).2, Option.bind_some, wrap_succ h0 (by omega)]
  rw [allT]
  cases h : tailB (bt s i) with
  | false => simp
  | true =>
   rw [if_pos rfl, attr_Key_l0 s hs n (i + 1) (by omega) (by omega) k (by omega)]
   simp
def allR (s : ByteArray) : Int → Nat → Bool
  | _, 0 => true
  | i, n + 1 => (if headB (bt s i) then true else (if i = 0 then false else tailB (bt s i))) && allR s (i + 1) n
theorem ref_Key_l0 (s : ByteArray) (hs : s.size ≤ 9223372036854775807) : ∀ (n : Nat) (i : Int), 0 ≤ i → i + n = s.size → ∀ k, n < k → belfryref04_Key.l0 k s i = some (allR s i n)
 | _, _, _, _, 0, hk => absurd hk (by omega)
 | 0, i, h0, hn, k + 1, hk => by
  rw [belfryref04_Key.l0, if_neg (by omega)]; rfl
 | n + 1, i, h0, hn, k + 1, hk => by
  have ih := ref_Key_l0 s hs n (i + 1) (by omega) (by omega) k (by omega)
  rw [belfryref04_Key.l0, if_pos (by omega), if_pos h0, wrap_succ h0 (by omega), ih, allR]
  simp only [headB, tailB]
  generalize bt s i = c
  by_cases h97 : c ≥ 97 <;> by_cases h122 : c ≤ 122 <;> by_cases h65 : c ≥ 65 <;> by_cases h90 : c ≤ 90 <;> by_cases h95 : c = 95 <;> by_cases hi : i = 0 <;> by_cases h48 : c ≥ 48 <;> by_cases h57 : c ≤ 57 <;> by_cases h46 : c = 46 <;> first | omega | simp [*]
theorem allR_allT (s : ByteArray) : ∀ (n : Nat) (i : Int), 0 < i → allR s i n = allT s i n
 | 0, _, _ => rfl
 | n + 1, i, h => by
  rw [allR, allT, allR_allT s n (i + 1) (by omega), if_neg (show ¬ i = 0 by omega)]
  cases hh : headB (bt s i) with
  | false => simp
  | true => simp [tailB, hh]
def keyB (s : ByteArray) : Bool := decide (1 ≤ s.size) && decide (s.size ≤ 64) && headB (bt s 0) && allT s 1 (s.size - 1)
theorem toList_nil {s : ByteArray} : s.toList = ([] : List UInt8) ↔ s.size = 0 := by
 rw [Lib.toList_data]
 constructor
 ·
  intro h; show s.data.size = 0; rw [← Array.length_toList, h]; rfl
 ·
  intro h
  have : s.data.size = 0 := h
  rw [← Array.length_toList] at this
  exact List.eq_nil_of_length_eq_zero this
theorem key_eq (s : ByteArray) (k : Nat) (hk : 66 < k) : attr_Key.f k s = some (keyB s) := by
 obtain ⟨k, rfl⟩ : ∃ j, k = j + 1 := ⟨k - 1, by omega⟩
 unfold attr_Key.f keyB
 by_cases h0 : s.size = 0
 ·
  rw [if_pos (toList_nil.2 h0)]
  simp [attr_Key.j0, h0]
 ·
  rw [if_neg (fun h => h0 (toList_nil.1 h))]
  by_cases h64 : (s.size : Int) > 64
  ·
   rw [if_pos h64]
   have : ¬ s.size ≤ 64 := by omega
   simp [attr_Key.j0, this]
  ·
   rw [if_neg h64, if_pos (by omega), head_eq _ (bt_range s 0).1 (bt_range s 0).2, Option.bind_some]
   have h1 : decide (1 ≤ s.size) = true := decide_eq_true (by omega)
   have h2 : decide (s.size ≤ 64) = true := decide_eq_true (by omega)
   rw [h1, h2]
   cases hh : headB (bt s 0) with
   | false => simp [attr_Key.j0]
   | true =>
    rw [attr_Key.j0]
    rw [if_neg (by simp)]
    obtain ⟨n, hn⟩ : ∃ n, s.size = n + 1 := ⟨s.size - 1, by omega⟩
    rw [attr_Key_l0 s (by omega) (n + 1) 0 (by omega) (by omega) k (by omega), allT, hn]
    have : tailB (bt s 0) = true := by simp [tailB, hh]
    rw [this]
    simp
theorem ref_key_eq (s : ByteArray) (k : Nat) (hk : 66 < k) : belfryref04_Key.f k s = some (keyB s) := by
 obtain ⟨k, rfl⟩ : ∃ j, k = j + 1 := ⟨k - 1, by omega⟩
 unfold belfryref04_Key.f keyB
 by_cases h0 : (s.size : Int) < 1
 ·
  rw [if_pos h0]
  have : s.size = 0 := by omega
  simp [belfryref04_Key.j0, this]
 ·
  rw [if_neg h0]
  by_cases h64 : (s.size : Int) > 64
  ·
   have : ¬ s.size ≤ 64 := by omega
   simp [belfryref04_Key.j0, this, h64]
  ·
   have h1 : decide (1 ≤ s.size) = true := decide_eq_true (by omega)
   have h2 : decide (s.size ≤ 64) = true := decide_eq_true (by omega)
   rw [h1, h2, belfryref04_Key.j0, if_neg (by simp; omega)]
   obtain ⟨n, hn⟩ : ∃ n, s.size = n + 1 := ⟨s.size - 1, by omega⟩
   rw [ref_Key_l0 s (by omega) (n + 1) 0 (by omega) (by omega) k (by omega), allR, allR_allT s n (0 + 1) (by omega), hn]
   cases hh : headB (bt s 0) with
   | false => simp
   | true => simp
end Go.Proofs.YtefeibndnghejaaGreatDoor.Pr
end
section
set_option linter.unusedVariables false
set_option linter.unusedSimpArgs false
namespace Go.Proofs.YtefeibndnghejaaGreatDoor.Pr
open Go.RowKit Go.Proofs.YtefeibndnghejaaGreatDoorW.PrintWords Go.Proofs.YtefeibndnghejaaGreatDoorW.PrintLast Go.Proofs.YtefeibndnghejaaGreatDoorW.PrintMore
theorem wrap_small {n : Int} (h0 : -9223372036854775808 ≤ n) (h1 : n < 9223372036854775808) : wrap64 n = n := by unfold wrap64; omega
def inr (c lo hi : Int) : Bool := decide (lo ≤ c) && decide (c ≤ hi)
def chkF (s : ByteArray) (i : Nat) : Nat → Nat → Int → Int → Bool
  | _, 0, _, _ => true
  | m, d + 1, lo, hi => inr (bt s ((i : Int) + m)) lo hi && chkF s i (m + 1) d 128 191
theorem u_l1 (s : ByteArray) (hs : s.size ≤ 256) (i n K : Nat) (v : Bool) (hin : i + n < s.size) (hn : n ≤ 3) (hnext : ∀ k, K ≤ k → belfryref02_Utf8.l0 k s ((i + n + 1 : Nat) : Int) = some v) :
  ∀ (d m : Nat) (lo hi : Int), m + d = n + 1 → ∀ k, K + d + 1 ≤ k → belfryref02_Utf8.l1 k s (i : Int) (n : Int) lo hi (m : Int) = some (chkF s i m d lo hi && v)
 | _, _, _, _, _, 0, hk => absurd hk (by omega)
 | 0, m, lo, hi, hm, k + 1, hk => by
  rw [belfryref02_Utf8.l1, if_neg (by omega), wrap_small (n := (i : Int) + n) (by omega) (by omega), wrap_small (n := (i : Int) + n + 1) (by omega) (by omega)]
  have := hnext k (by omega)
  rw [show ((i + n + 1 : Nat) : Int) = (i : Int) + (n : Int) + 1 by omega] at this
  rw [this, chkF, Bool.true_and]
 | d + 1, m, lo, hi, hm, k + 1, hk => by
  have ih := u_l1 s hs i n K v hin hn hnext d (m + 1) 128 191 (by omega) k (by omega)
  rw [show (((m + 1 : Nat)) : Int) = (m : Int) + 1 by omega] at ih
  rw [belfryref02_Utf8.l1, if_pos (by omega), wrap_small (by omega) (by omega), if_pos (by omega), if_pos (by omega), wrap_small (n := (m : Int) + 1) (by omega) (by omega), ih, chkF, inr]
  generalize bt s ((i : Int) + m) = c
  by_cases h1 : c < lo
  ·
   rw [if_pos h1, decide_eq_false (show ¬ lo ≤ c by omega)]; simp
  ·
   rw [if_neg h1, decide_eq_true (show lo ≤ c by omega)]
   by_cases h2 : c > hi
   ·
    rw [if_pos h2, decide_eq_false (show ¬ c ≤ hi by omega)]; simp
   ·
    rw [if_neg h2, decide_eq_true (show c ≤ hi by omega)]; simp
theorem u_j4 (s : ByteArray) (hs : s.size ≤ 256) (i n K : Nat) (v : Bool) (hi0 : i < s.size) (hn : n ≤ 3) (hnext : i + n < s.size → ∀ k, K ≤ k → belfryref02_Utf8.l0 k s ((i + n + 1 : Nat) : Int) = some v) (lo hi : Int) :
  ∀ k, K + n + 3 ≤ k → belfryref02_Utf8.j4 k s (i : Int) (n : Int) lo hi = some (decide (i + n < s.size) && (chkF s i 1 n lo hi && v))
 | 0, hk => absurd hk (by omega)
 | k + 1, hk => by
  rw [belfryref02_Utf8.j4, wrap_small (by omega) (by omega)]
  by_cases h : i + n < s.size
  ·
   rw [if_neg (by omega), decide_eq_true h, Bool.true_and]
   exact u_l1 s hs i n K v h hn (hnext h) n 1 lo hi (by omega) k (by omega)
  ·
   rw [if_pos (by omega), decide_eq_false h, Bool.false_and]
theorem bt_drop (s : ByteArray) (i j : Nat) : bt s ((i : Int) + (j : Int)) = ((((s.data.toList.drop i).getD j 0).toNat : Nat) : Int) := by
 unfold bt
 have e : ((i : Int) + (j : Int)).toNat = i + j := by omega
 by_cases h : ((i : Int) + (j : Int)).toNat < s.size
 ·
  rw [dif_pos h]
  have hl : i + j < s.data.toList.length := by rw [Array.length_toList]; rw [e] at h; exact h
  have : (s.data.toList.drop i).getD j 0 = s.data.toList[i + j] := by
   rw [List.getD_eq_getElem?_getD, List.getElem?_drop, List.getElem?_eq_getElem hl]; rfl
  rw [this]
  congr 2
 ·
  rw [dif_neg h]
  have hl : s.data.toList.length ≤ i + j := by rw [Array.length_toList]; rw [e] at h; exact Nat.le_of_not_lt h
  have : (s.data.toList.drop i).getD j 0 = 0 := by
   rw [List.getD_eq_getElem?_getD, List.getElem?_drop, List.getElem?_eq_none hl]; rfl
  rw [this]; rfl
theorem m1 {p : Prop} [Decidable p] {x : Bool} (hx : x = decide (¬ p)) (v : Nat → Bool) (n : Nat) : (x && v n) = match (if p then none else some n : Option Nat) with | none => false | some k => v k := by
 subst hx
 by_cases h : p <;> simp [h]
theorem drop_ne {s : ByteArray} {i : Nat} (h : i < s.size) : s.data.toList.drop i ≠ [] := by
 intro e
 have := List.drop_eq_nil_iff.1 e
 rw [Array.length_toList] at this
 exact absurd h (Nat.not_lt.2 this)
theorem utf8_l0 (s : ByteArray) (hs : s.size ≤ 256) : ∀ (N i : Nat), i ≤ s.size → s.size - i < N → ∃ K, ∀ k, K ≤ k → belfryref02_Utf8.l0 k s (i : Int) = some (Lib.validD (s.data.toList.drop i))
 | 0, _, _, h => absurd h (by omega)
 | N + 1, i, hi, hN => by
  by_cases hlt : i < s.size
  case neg =>
   refine ⟨1, fun k hk => ?_⟩
   obtain ⟨k, rfl⟩ : ∃ j, k = j + 1 := ⟨k - 1, by omega⟩
   have : s.data.toList.drop i = [] := List.drop_eq_nil_iff.2 (by rw [Array.length_toList]; exact Nat.le_of_not_lt hlt)
   rw [belfryref02_Utf8.l0, if_neg (by omega), this]; rfl
  case pos =>
   have next : ∀ n : Nat, ∃ K, i + n < s.size → ∀ k, K ≤ k → belfryref02_Utf8.l0 k s ((i + n + 1 : Nat) : Int) = some (Lib.validD ((s.data.toList.drop i).drop (n + 1))) := fun n => by
    by_cases h : i + n < s.size
    ·
     obtain ⟨K, hK⟩ := utf8_l0 s hs N (i + n + 1) (by omega) (by omega)
     refine ⟨K, fun _ k hk => ?_⟩
     rw [hK k hk, List.drop_drop]
     congr 3
    ·
     exact ⟨0, fun h' => absurd h' h⟩
   have hne := drop_ne hlt
   have hlen : (s.data.toList.drop i).length = s.size - i := by rw [List.length_drop, Array.length_toList]; rfl
   have b0 := bt_drop s i 0
   have b1 := bt_drop s i 1
   have b2 := bt_drop s i 2
   have b3 := bt_drop s i 3
   simp only [Int.natCast_zero, Int.add_zero] at b0
   have lead := fun h => Lib.validD_lead (s.data.toList.drop i) hne h
   rw [hlen] at lead
   obtain ⟨K0, next0⟩ := next 0
   obtain ⟨K1, next1⟩ := next 1
   obtain ⟨K2, next2⟩ := next 2
   obtain ⟨K3, next3⟩ := next 3
   refine ⟨K0 + K1 + K2 + K3 + 20, fun k hk => ?_⟩
   obtain ⟨k, rfl⟩ : ∃ j, k = j + 5 := ⟨k - 5, by omega⟩
   have r0 := fun lo hi k hk => u_j4 s hs i 0 K0 _ hlt (by omega) next0 lo hi k hk
   have r1 := fun lo hi k hk => u_j4 s hs i 1 K1 _ hlt (by omega) next1 lo hi k hk
   have r2 := fun lo hi k hk => u_j4 s hs i 2 K2 _ hlt (by omega) next2 lo hi k hk
   have r3 := fun lo hi k hk => u_j4 s hs i 3 K3 _ hlt (by omega) next3 lo hi k hk
   generalize hl : s.data.toList.drop i = l at *
   have hc := (l.getD 0 0).toNat_lt
   have hc1 := (l.getD 1 0).toNat_lt
   have hc2 := (l.getD 2 0).toNat_lt
   have hc3 := (l.getD 3 0).toNat_lt
   have hv0 : l.getD 0 0 = l.getD 0 0 := rfl
   obtain ⟨c, hcc⟩ : ∃ c, c = (l.getD 0 0).toNat := ⟨_, rfl⟩
   rw [← hcc] at b0 lead hc
   by_cases c0 : c < 128
   ·
    have e : Lib.validD l = Lib.validD (l.drop 1) := by
     cases l with
     | nil => exact absurd rfl hne
     | cons b t => rw [Lib.validD_cons b t (by simpa using (hcc ▸ c0))]; rfl
    have r := r0 128 191 (k + 4) (by omega)
    rw [decide_eq_true (show i + 0 < s.size by omega), chkF, Bool.true_and, Bool.true_and, ← e] at r
    rw [belfryref02_Utf8.l0, if_pos (by omega), if_pos (by omega), b0, if_pos (by omega)]
    exact r
   replace lead := lead (by omega)
   rw [lead]
   have nope : ∀ sz, sz = 1 → Lib.checkN (s.size - i) (l.getD 1 0).toNat (l.getD 2 0).toNat (l.getD 3 0).toNat sz (Lib.accLo (Lib.firstT c / 16)) (Lib.accHi (Lib.firstT c / 16)) = none := fun sz h => by simp [Lib.checkN, h]
   rw [belfryref02_Utf8.l0, if_pos (by omega), if_pos (by omega), b0, if_neg (by omega)]
   by_cases c1 : c < 194
   ·
    rw [nope _ (by simp [Lib.firstT, c0, c1]), if_neg (by omega), belfryref02_Utf8.j1, if_neg (by simp), if_neg (by omega), belfryref02_Utf8.j2, if_neg (by simp), if_neg (by omega), belfryref02_Utf8.j3, if_neg (by simp)]
   rw [if_pos (by omega)]
   by_cases d1 : c < 224
   ·
    have f1 : Lib.firstT c % 8 = 2 := by simp [Lib.firstT, c0, c1, d1]
    have f2 : Lib.accLo (Lib.firstT c / 16) = 128 := by simp [Lib.firstT, c0, c1, d1, Lib.accLo]
    have f3 : Lib.accHi (Lib.firstT c / 16) = 191 := by simp [Lib.firstT, c0, c1, d1, Lib.accHi]
    have r := r1 128 191 (k + 3) (by omega)
    rw [f1, f2, f3]
    rw [belfryref02_Utf8.j1, if_pos (by simp; omega)]
    refine Eq.trans r ?_
    congr 1
    rw [← Bool.and_assoc]
    rw [Lib.checkN, if_pos rfl]
    refine m1 ?_ (fun j => Lib.validD (l.drop j)) _
    simp only [chkF, inr, b1, b2, b3, Nat.reduceAdd]
    rw [Bool.eq_iff_iff]
    simp only [Bool.and_eq_true, decide_eq_true_eq, and_true]
    omega
   by_cases d2 : c = 224
   ·
    have f1 : Lib.firstT c % 8 = 3 := by simp [Lib.firstT, c0, c1, d1, d2]
    have f2 : Lib.accLo (Lib.firstT c / 16) = 160 := by simp [Lib.firstT, c0, c1, d1, d2, Lib.accLo]
    have f3 : Lib.accHi (Lib.firstT c / 16) = 191 := by simp [Lib.firstT, c0, c1, d1, d2, Lib.accHi]
    have r := r2 160 191 (k + 2) (by omega)
    rw [f1, f2, f3]
    rw [belfryref02_Utf8.j1, if_neg (by simp; omega), if_pos (by omega), belfryref02_Utf8.j2, if_pos (by simp; omega)]
    rw [if_pos (by omega), if_neg (by omega)]
    refine Eq.trans r ?_
    congr 1
    rw [← Bool.and_assoc]
    rw [Lib.checkN, if_neg (by decide), if_pos rfl]
    refine m1 ?_ (fun j => Lib.validD (l.drop j)) _
    simp only [chkF, inr, b1, b2, b3, Nat.reduceAdd]
    rw [Bool.eq_iff_iff]
    simp only [Bool.and_eq_true, decide_eq_true_eq, and_true]
    omega
   by_cases d3 : c < 237
   ·
    have f1 : Lib.firstT c % 8 = 3 := by simp [Lib.firstT, c0, c1, d1, d2, d3]
    have f2 : Lib.accLo (Lib.firstT c / 16) = 128 := by simp [Lib.firstT, c0, c1, d1, d2, d3, Lib.accLo]
    have f3 : Lib.accHi (Lib.firstT c / 16) = 191 := by simp [Lib.firstT, c0, c1, d1, d2, d3, Lib.accHi]
    have r := r2 128 191 (k + 2) (by omega)
    rw [f1, f2, f3]
    rw [belfryref02_Utf8.j1, if_neg (by simp; omega), if_pos (by omega), belfryref02_Utf8.j2, if_pos (by simp; omega)]
    rw [if_neg (by omega), if_neg (by omega)]
    refine Eq.trans r ?_
    congr 1
    rw [← Bool.and_assoc]
    rw [Lib.checkN, if_neg (by decide), if_pos rfl]
    refine m1 ?_ (fun j => Lib.validD (l.drop j)) _
    simp only [chkF, inr, b1, b2, b3, Nat.reduceAdd]
    rw [Bool.eq_iff_iff]
    simp only [Bool.and_eq_true, decide_eq_true_eq, and_true]
    omega
   by_cases d4 : c = 237
   ·
    have f1 : Lib.firstT c % 8 = 3 := by simp [Lib.firstT, c0, c1, d1, d2, d3, d4]
    have f2 : Lib.accLo (Lib.firstT c / 16) = 128 := by simp [Lib.firstT, c0, c1, d1, d2, d3, d4, Lib.accLo]
    have f3 : Lib.accHi (Lib.firstT c / 16) = 159 := by simp [Lib.firstT, c0, c1, d1, d2, d3, d4, Lib.accHi]
    have r := r2 128 159 (k + 2) (by omega)
    rw [f1, f2, f3]
    rw [belfryref02_Utf8.j1, if_neg (by simp; omega), if_pos (by omega), belfryref02_Utf8.j2, if_pos (by simp; omega)]
    rw [if_neg (by omega), if_pos (by omega)]
    refine Eq.trans r ?_
    congr 1
    rw [← Bool.and_assoc]
    rw [Lib.checkN, if_neg (by decide), if_pos rfl]
    refine m1 ?_ (fun j => Lib.validD (l.drop j)) _
    simp only [chkF, inr, b1, b2, b3, Nat.reduceAdd]
    rw [Bool.eq_iff_iff]
    simp only [Bool.and_eq_true, decide_eq_true_eq, and_true]
    omega
   by_cases d5 : c < 240
   ·
    have f1 : Lib.firstT c % 8 = 3 := by simp [Lib.firstT, c0, c1, d1, d2, d3, d4, d5]
    have f2 : Lib.accLo (Lib.firstT c / 16) = 128 := by simp [Lib.firstT, c0, c1, d1, d2, d3, d4, d5, Lib.accLo]
    have f3 : Lib.accHi (Lib.firstT c / 16) = 191 := by simp [Lib.firstT, c0, c1, d1, d2, d3, d4, d5, Lib.accHi]
    have r := r2 128 191 (k + 2) (by omega)
    rw [f1, f2, f3]
    rw [belfryref02_Utf8.j1, if_neg (by simp; omega), if_pos (by omega), belfryref02_Utf8.j2, if_pos (by simp; omega)]
    rw [if_neg (by omega), if_neg (by omega)]
    refine Eq.trans r ?_
    congr 1
    rw [← Bool.and_assoc]
    rw [Lib.checkN, if_neg (by decide), if_pos rfl]
    refine m1 ?_ (fun j => Lib.validD (l.drop j)) _
    simp only [chkF, inr, b1, b2, b3, Nat.reduceAdd]
    rw [Bool.eq_iff_iff]
    simp only [Bool.and_eq_true, decide_eq_true_eq, and_true]
    omega
   by_cases d6 : c = 240
   ·
    have f1 : Lib.firstT c % 8 = 4 := by simp [Lib.firstT, c0, c1, d1, d2, d3, d4, d5, d6]
    have f2 : Lib.accLo (Lib.firstT c / 16) = 144 := by simp [Lib.firstT, c0, c1, d1, d2, d3, d4, d5, d6, Lib.accLo]
    have f3 : Lib.accHi (Lib.firstT c / 16) = 191 := by simp [Lib.firstT, c0, c1, d1, d2, d3, d4, d5, d6, Lib.accHi]
    have r := r3 144 191 (k + 1) (by omega)
    rw [f1, f2, f3]
    rw [belfryref02_Utf8.j1, if_neg (by simp; omega), if_pos (by omega), belfryref02_Utf8.j2, if_neg (by simp; omega), if_pos (by omega), belfryref02_Utf8.j3, if_pos (by simp; omega)]
    rw [if_pos (by omega), if_neg (by omega)]
    refine Eq.trans r ?_
    congr 1
    rw [← Bool.and_assoc]
    rw [Lib.checkN, if_neg (by decide), if_neg (by decide), if_pos rfl]
    refine m1 ?_ (fun j => Lib.validD (l.drop j)) _
    simp only [chkF, inr, b1, b2, b3, Nat.reduceAdd]
    rw [Bool.eq_iff_iff]
    simp only [Bool.and_eq_true, decide_eq_true_eq, and_true]
    omega
   by_cases d7 : c < 244
   ·
    have f1 : Lib.firstT c % 8 = 4 := by simp [Lib.firstT, c0, c1, d1, d2, d3, d4, d5, d6, d7]
    have f2 : Lib.accLo (Lib.firstT c / 16) = 128 := by simp [Lib.firstT, c0, c1, d1, d2, d3, d4, d5, d6, d7, Lib.accLo]
    have f3 : Lib.accHi (Lib.firstT c / 16) = 191 := by simp [Lib.firstT, c0, c1, d1, d2, d3, d4, d5, d6, d7, Lib.accHi]
    have r := r3 128 191 (k + 1) (by omega)
    rw [f1, f2, f3]
    rw [belfryref02_Utf8.j1, if_neg (by simp; omega), if_pos (by omega), belfryref02_Utf8.j2, if_neg (by simp; omega), if_pos (by omega), belfryref02_Utf8.j3, if_pos (by simp; omega)]
    rw [if_neg (by omega), if_neg (by omega)]
    refine Eq.trans r ?_
    congr 1
    rw [← Bool.and_assoc]
    rw [Lib.checkN, if_neg (by decide), if_neg (by decide), if_pos rfl]
    refine m1 ?_ (fun j => Lib.validD (l.drop j)) _
    simp only [chkF, inr, b1, b2, b3, Nat.reduceAdd]
    rw [Bool.eq_iff_iff]
    simp only [Bool.and_eq_true, decide_eq_true_eq, and_true]
    omega
   by_cases d8 : c = 244
   ·
    have f1 : Lib.firstT c % 8 = 4 := by simp [Lib.firstT, c0, c1, d1, d2, d3, d4, d5, d6, d7, d8]
    have f2 : Lib.accLo (Lib.firstT c / 16) = 128 := by simp [Lib.firstT, c0, c1, d1, d2, d3, d4, d5, d6, d7, d8, Lib.accLo]
    have f3 : Lib.accHi (Lib.firstT c / 16) = 143 := by simp [Lib.firstT, c0, c1, d1, d2, d3, d4, d5, d6, d7, d8, Lib.accHi]
    have r := r3 128 143 (k + 1) (by omega)
    rw [f1, f2, f3]
    rw [belfryref02_Utf8.j1, if_neg (by simp; omega), if_pos (by omega), belfryref02_Utf8.j2, if_neg (by simp; omega), if_pos (by omega), belfryref02_Utf8.j3, if_pos (by simp; omega)]
    rw [if_neg (by omega), if_pos (by omega)]
    refine Eq.trans r ?_
    congr 1
    rw [← Bool.and_assoc]
    rw [Lib.checkN, if_neg (by decide), if_neg (by decide), if_pos rfl]
    refine m1 ?_ (fun j => Lib.validD (l.drop j)) _
    simp only [chkF, inr, b1, b2, b3, Nat.reduceAdd]
    rw [Bool.eq_iff_iff]
    simp only [Bool.and_eq_true, decide_eq_true_eq, and_true]
    omega
   ·
    rw [nope _ (by simp [Lib.firstT, c0, c1, d1, d2, d3, d4, d5, d6, d7, d8]), belfryref02_Utf8.j1, if_neg (by simp; omega), if_pos (by omega), belfryref02_Utf8.j2, if_neg (by simp; omega), if_pos (by omega), belfryref02_Utf8.j3, if_neg (by simp; omega)]
end Go.Proofs.YtefeibndnghejaaGreatDoor.Pr
end
section
set_option linter.unusedVariables false
set_option linter.unusedSimpArgs false
namespace Go.Proofs.YtefeibndnghejaaGreatDoor.Pr
open Go.RowKit Go.Proofs.YtefeibndnghejaaGreatDoorW.PrintWords Go.Proofs.YtefeibndnghejaaGreatDoorW.PrintLast Go.Proofs.YtefeibndnghejaaGreatDoorW.PrintMore
def Ev {α : Type} (f : Nat → Option α) (v : α) : Prop := ∃ K, ∀ k, K ≤ k → f k = some v
theorem Ev.bind {α β : Type} {f : Nat → Option α} {g : Nat → α → Option β} {v : α} {r : β} (h : Ev f v) (h' : Ev (fun k => g k v) r) : Ev (fun k => (f k).bind (g k)) r := by
 obtain ⟨K, hK⟩ := h
 obtain ⟨L, hL⟩ := h'
 exact ⟨K + L, fun k hk => by show (f k).bind (g k) = _; rw [hK k (by omega), Option.bind_some]; exact hL k (by omega)⟩
theorem Ev.const {α : Type} {v : α} {f : Option α} (h : f = some v) : Ev (fun _ => f) v := ⟨0, fun _ _ => h⟩
theorem Ev.succ {α : Type} {f g : Nat → Option α} {v : α} (h : Ev g v) (e : ∀ k, f (k + 1) = g k) : Ev f v := by
 obtain ⟨K, hK⟩ := h
 refine ⟨K + 1, fun k hk => ?_⟩
 obtain ⟨k, rfl⟩ : ∃ j, k = j + 1 := ⟨k - 1, by omega⟩
 rw [e]; exact hK k (by omega)
def valB (s : ByteArray) : Bool := decide (1 ≤ s.size) && decide (s.size ≤ 256) && Lib.validD s.data.toList
theorem value_eq (s : ByteArray) : attr_Value.f s = some (valB s) := by
 unfold attr_Value.f attr_plain.f utf8_ValidString.f valB
 by_cases h0 : s.size = 0
 ·
  rw [if_pos (toList_nil.2 h0)]; simp [h0]
 ·
  rw [if_neg (fun h => h0 (toList_nil.1 h))]
  have h1 : decide (1 ≤ s.size) = true := decide_eq_true (by omega)
  rw [h1]
  by_cases h : (s.size : Int) ≤ 256
  ·
   have h2 : decide (s.size ≤ 256) = true := decide_eq_true (by omega)
   rw [if_pos h, if_pos (by omega), h2]; simp
  ·
   have h2 : decide (s.size ≤ 256) = false := decide_eq_false (by omega)
   rw [if_neg h, h2]; simp
theorem ref_value_eq (s : ByteArray) : Ev (fun k => belfryref04_Value.f k s) (valB s) := by
 unfold belfryref04_Value.f belfryref04_text.f belfryref02_Utf8.f valB
 by_cases h0 : s.size = 0
 ·
  refine ⟨0, fun k _ => ?_⟩
  dsimp only
  rw [if_pos (toList_nil.2 h0)]; simp [h0]
 ·
  have h1 : decide (1 ≤ s.size) = true := decide_eq_true (by omega)
  by_cases h : (s.size : Int) ≤ 256
  ·
   have h2 : decide (s.size ≤ 256) = true := decide_eq_true (by omega)
   obtain ⟨K, hK⟩ := utf8_l0 s (by omega) (s.size + 1) 0 (by omega) (by omega)
   refine ⟨K, fun k hk => ?_⟩
   have := hK k hk
   simp only [Int.natCast_zero, List.drop_zero] at this
   dsimp only
   rw [if_neg (fun h => h0 (toList_nil.1 h)), if_pos h, h1, h2]
   rw [this]; simp
  ·
   have h2 : decide (s.size ≤ 256) = false := decide_eq_false (by omega)
   refine ⟨0, fun k _ => ?_⟩
   dsimp only
   rw [if_neg (fun h => h0 (toList_nil.1 h)), if_neg h, h2]; simp
def faultOf : List S85 → Int
  | [] => 0
  | x :: l => if keyB x.f0 then (if valB x.f1 then faultOf l else 41) else 40
theorem rd_at (l : List S85) (i : Nat) (h : i < l.length) : rd_T85 l (i : Int) = l[i] := by simp [rd_T85, h]
theorem drop_cons (l : List S85) (i : Nat) (h : i < l.length) : l.drop i = l[i] :: l.drop (i + 1) := List.drop_eq_getElem_cons h
abbrev keyL (x : S85) : List UInt8 := x.f0.data.toList
def dupAdj : List S85 → Bool
  | [] => false
  | [_] => false
  | x :: y :: t => keyL x == keyL y || dupAdj (y :: t)
theorem make_l1 (s : List S85) (hs : s.length ≤ 16) : ∀ (n i : Nat), 1 ≤ i → i + n = s.length → ∀ k, n < k → attr_Make.l1 k s (s.length : Int) (i : Int) = some (if dupAdj (s.drop (i - 1)) then ([], 6) else (s, 0))
 | _, _, _, _, 0, hk => absurd hk (by omega)
 | 0, i, h1, hn, k + 1, hk => by
  rw [attr_Make.l1, if_neg (by omega), drop_cons s (i - 1) (by omega), List.drop_of_length_le (show s.length ≤ i - 1 + 1 by omega)]
  rfl
 | n + 1, i, h1, hn, k + 1, hk => by
  have hi : i < s.length := by omega
  have ih := make_l1 s hs n (i + 1) (by omega) (by omega) k (by omega)
  have e1 : wrap64 ((i : Int) - 1) = ((i - 1 : Nat) : Int) := by rw [wrap_small (by omega) (by omega)]; omega
  have e2 : wrap64 ((i : Int) + 1) = ((i + 1 : Nat) : Int) := by rw [wrap_small (by omega) (by omega)]; omega
  rw [attr_Make.l1, if_pos (by omega), if_pos (by omega), if_pos (by omega), if_pos (by omega), e1, if_pos (by omega), if_pos (by omega), rd_at s i hi, rd_at s (i - 1) (by omega), e2, ih]
  rw [drop_cons s (i - 1) (by omega), show i - 1 + 1 = i by omega, drop_cons s i hi, dupAdj, show i + 1 - 1 = i by omega, drop_cons s i hi]
  simp only [Lib.toList_data]
  by_cases h : keyL s[i] = keyL s[i - 1]
  ·
   rw [if_pos h, show (keyL s[i - 1] == keyL s[i]) = true by simp [h]]; rfl
  ·
   rw [if_neg h, show (keyL s[i - 1] == keyL s[i]) = false from beq_eq_false_iff_ne.2 (fun e => h e.symm)]; rfl
theorem ref_l2 (s : List S85) (hs : s.length ≤ 16) : ∀ (n i : Nat), 1 ≤ i → i + n = s.length ∨ (n = 0 ∧ s.length ≤ i) → ∀ k, n < k → belfryref04_Make.l2 k s (i : Int) = some (if i ≤ s.length ∧ dupAdj (s.drop (i - 1)) = true then ([], 6) else (s, 0))
 | _, _, _, _, 0, hk => absurd hk (by omega)
 | 0, i, h1, hn, k + 1, hk => by
  rw [belfryref04_Make.l2, if_neg (by omega)]
  by_cases h : i ≤ s.length
  ·
   rw [drop_cons s (i - 1) (by omega), List.drop_of_length_le (show s.length ≤ i - 1 + 1 by omega)]
   simp [dupAdj]
  ·
   rw [if_neg (fun hh => h hh.1)]
 | n + 1, i, h1, hn, k + 1, hk => by
  have hi : i < s.length := by omega
  have ih := ref_l2 s hs n (i + 1) (by omega) (by omega) k (by omega)
  have e1 : wrap64 ((i : Int) - 1) = ((i - 1 : Nat) : Int) := by rw [wrap_small (by omega) (by omega)]; omega
  have e2 : wrap64 ((i : Int) + 1) = ((i + 1 : Nat) : Int) := by rw [wrap_small (by omega) (by omega)]; omega
  rw [belfryref04_Make.l2, if_pos (by omega), if_pos (by omega), e1, if_pos (by omega), if_pos (by omega), rd_at s i hi, rd_at s (i - 1) (by omega), e2, ih]
  rw [drop_cons s (i - 1) (by omega), show i - 1 + 1 = i by omega, drop_cons s i hi, dupAdj, show i + 1 - 1 = i by omega, drop_cons s i hi]
  simp only [Lib.toList_data]
  have a1 : i + 1 ≤ s.length := by omega
  have a2 : i ≤ s.length := by omega
  by_cases h : keyL s[i] = keyL s[i - 1]
  ·
   rw [if_pos h, show (keyL s[i - 1] == keyL s[i]) = true by simp [h]]; simp [a2]
  ·
   rw [if_neg h, show (keyL s[i - 1] == keyL s[i]) = false from beq_eq_false_iff_ne.2 (fun e => h e.symm)]; simp [a1, a2]
theorem make_l0 (l : List S85) (hl : l.length ≤ 16) : ∀ (n i : Nat), i + n = l.length → ∀ k, n + l.length + 70 < k → attr_Make.l0 k l l (l.length : Int) (i : Int) = some (if faultOf (l.drop i) ≠ 0 then ([], faultOf (l.drop i)) else if dupAdj (sorted85 l) then ([], 6) else (sorted85 l, 0))
 | _, _, _, 0, hk => absurd hk (by omega)
 | 0, i, hn, k + 1, hk => by
  have hd : l.drop i = [] := List.drop_of_length_le (by omega)
  have hlen := (sorted85_perm l).2.1
  rw [attr_Make.l0, if_neg (by omega), hd, slices_Clone_Attr.f, if_pos (by omega), Option.bind_some, slices_SortFunc_Attr.f, if_pos (by omega), Option.bind_some, if_neg (by simp [faultOf])]
  obtain ⟨k, rfl⟩ : ∃ j, k = j + 1 := ⟨k - 1, by omega⟩
  rw [← hlen]
  by_cases h0 : (sorted85 l).length = 0
  ·
   rw [attr_Make.l1, if_neg (by omega)]
   rw [List.eq_nil_of_length_eq_zero h0]; rfl
  ·
   have := make_l1 (sorted85 l) (by omega) ((sorted85 l).length - 1) 1 (by omega) (by omega) k (by omega)
   rw [attr_Make.l1, if_pos (by omega), if_neg (by omega), show wrap64 (0 + 1) = ((1 : Nat) : Int) by unfold wrap64; rfl, this]
   rfl
 | n + 1, i, hn, k + 1, hk => by
  have hi : i < l.length := by omega
  have ih := make_l0 l hl n (i + 1) (by omega) k (by omega)
  have e2 : wrap64 ((i : Int) + 1) = ((i + 1 : Nat) : Int) := by rw [wrap_small (by omega) (by omega)]; omega
  rw [attr_Make.l0, if_pos (by omega), if_pos (by omega), if_pos (by omega), rd_at l i hi, key_eq _ k (by omega), Option.bind_some, drop_cons l i hi, faultOf]
  cases hk1 : keyB l[i].f0 with
  | false => simp
  | true =>
   rw [if_pos rfl, value_eq, Option.bind_some]
   cases hv : valB l[i].f1 with
   | false => simp
   | true =>
    rw [if_pos rfl, e2, ih]; simp
end Go.Proofs.YtefeibndnghejaaGreatDoor.Pr
end
section
set_option linter.unusedVariables false
set_option linter.unusedSimpArgs false
namespace Go.Proofs.YtefeibndnghejaaGreatDoor.Pr
open Go.RowKit Go.Proofs.YtefeibndnghejaaGreatDoorW.PrintWords Go.Proofs.YtefeibndnghejaaGreatDoorW.PrintLast Go.Proofs.YtefeibndnghejaaGreatDoorW.PrintMore
def ltK (a b : S85) : Bool := Op.bytesLess (keyL a) (keyL b)
theorem ltK_irrefl (a : S85) : ltK a a = false := bytesLess_irrefl _
theorem ltK_trans {a b c : S85} (h : ltK a b = true) (h' : ltK b c = true) : ltK a c = true := less_trans _ _ _ h h'
theorem ltK_ntrans {a b c : S85} (h : ltK a b = false) (h' : ltK b c = false) : ltK a c = false := less_ntrans _ _ _ h h'
theorem ltK_asym {a b : S85} (h : ltK a b = true) : ltK b a = false := by
 cases h' : ltK b a with
 | false => rfl
 | true => have := ltK_trans h h'; rw [ltK_irrefl] at this; cases this
theorem ltK_total {a b : S85} (h : ltK b a = false) (hne : keyL a ≠ keyL b) : ltK a b = true := by
 have := bytesLess_total (keyL b) (keyL a)
 unfold ltK at *
 rw [← this, h, beq_eq_false_iff_ne.2 (fun e => hne e.symm)]
 rfl
def pos (x : S85) (m : List S85) : Nat → Nat
  | 0 => 0
  | j + 1 => if ltK x (rd_T85 m (j : Int)) = true then pos x m j else j + 1
theorem pos_le (x : S85) (m : List S85) : ∀ j, pos x m j ≤ j
 | 0 => Nat.le_refl _
 | j + 1 => by
  rw [pos]; split
  ·
   exact Nat.le_trans (pos_le x m j) (Nat.le_succ _)
  ·
   exact Nat.le_refl _
theorem pos_before (x : S85) (m : List S85) : ∀ j, pos x m j = 0 ∨ ltK x (rd_T85 m ((pos x m j - 1 : Nat) : Int)) = false
 | 0 => .inl rfl
 | j + 1 => by
  rw [pos]; split
  ·
   exact pos_before x m j
  ·
   rename_i h
   right
   rw [Nat.add_sub_cancel]
   exact Bool.eq_false_iff.2 h
theorem pos_behind (x : S85) (m : List S85) : ∀ j i, pos x m j ≤ i → i < j → ltK x (rd_T85 m (i : Int)) = true
 | 0, _, _, h => absurd h (by omega)
 | j + 1, i, h1, h2 => by
  rw [pos] at h1
  split at h1
  ·
   rename_i h
   by_cases e : i = j
   ·
    subst e; exact h
   ·
    exact pos_behind x m j i h1 (by omega)
  ·
   omega
def ins (x : S85) (m : List S85) : List S85 := m.take (pos x m m.length) ++ [x] ++ m.drop (pos x m m.length)
theorem ins_len (x : S85) (m : List S85) : (ins x m).length = m.length + 1 := by
 have := pos_le x m m.length
 simp [ins]; omega
theorem ins_perm (x : S85) (m : List S85) : (ins x m).Perm (x :: m) := by
 unfold ins
 have h : (m.take (pos x m m.length) ++ [x] ++ m.drop (pos x m m.length)).Perm ([x] ++ (m.take (pos x m m.length) ++ m.drop (pos x m m.length))) := by
  rw [List.append_assoc]
  have := List.perm_append_comm_assoc (m.take (pos x m m.length)) [x] (m.drop (pos x m m.length))
  exact this
 rw [List.take_append_drop] at h
 exact h
abbrev Srt (m : List S85) : Prop := m.Pairwise fun a b => ltK b a = false
theorem ins_sorted (x : S85) (m : List S85) (hm : Srt m) : Srt (ins x m) := by
 have hp := pos_le x m m.length
 have hb := pos_before x m m.length
 have hh := pos_behind x m m.length
 unfold ins
 generalize pos x m m.length = p at *
 have hd : ∀ b ∈ m.drop p, ltK b x = false := fun b hbm => by
  obtain ⟨i, hi, e⟩ := List.getElem_of_mem hbm
  rw [List.length_drop] at hi
  rw [List.getElem_drop] at e
  have := hh (p + i) (by omega) (by omega)
  rw [rd_at m (p + i) (by omega), e] at this
  exact ltK_asym this
 have ht : ∀ a ∈ m.take p, ltK x a = false := fun a ham => by
  obtain ⟨i, hi, e⟩ := List.getElem_of_mem ham
  rw [List.length_take] at hi
  rw [List.getElem_take] at e
  rcases hb with h0 | hb
  ·
   omega
  ·
   rw [rd_at m (p - 1) (by omega)] at hb
   by_cases hip : i = p - 1
   ·
    subst hip; rw [e] at hb; exact hb
   ·
    have := List.pairwise_iff_getElem.1 hm i (p - 1) (by omega) (by omega) (by omega)
    rw [e] at this
    exact ltK_ntrans hb this
 rw [List.append_assoc]
 refine List.pairwise_append.2 ⟨hm.sublist (List.take_sublist _ _), List.pairwise_append.2 ⟨List.pairwise_singleton _ _, hm.sublist (List.drop_sublist _ _), fun a ha b hb' => ?_⟩, fun a ha b hb' => ?_⟩
 ·
  rw [List.mem_singleton] at ha; subst ha; exact hd b hb'
 ·
  rcases List.mem_append.1 hb' with h | h
  ·
   rw [List.mem_singleton] at h; subst h; exact ht a ha
  ·
   have := hm
   rw [← List.take_append_drop p m] at this
   exact (List.pairwise_append.1 this).2.2 a ha b h
def insAll : List S85 → List S85 → List S85
  | m, [] => m
  | m, x :: l => insAll (ins x m) l
theorem insAll_perm : ∀ (l m : List S85), (insAll m l).Perm (m ++ l)
 | [], m => by rw [insAll, List.append_nil]
 | x :: l, m => by
  rw [insAll]
  refine (insAll_perm l (ins x m)).trans ?_
  refine ((ins_perm x m).append_right l).trans ?_
  exact List.perm_middle.symm
theorem insAll_sorted : ∀ (l m : List S85), Srt m → Srt (insAll m l)
 | [], m, h => h
 | x :: l, m, h => insAll_sorted l (ins x m) (ins_sorted x m h)
theorem ref_l1 (l : List S85) (hl : l.length ≤ 16) (m : List S85) (hm : m.length ≤ 16) (i : Nat) (hi : i < l.length) (v : List S85 × Int) (K : Nat) :
  ∀ (j : Nat), j ≤ m.length → (∀ k, K ≤ k → belfryref04_Make.l0 k l (m.take (pos l[i] m j) ++ [l[i]] ++ m.drop (pos l[i] m j)) ((i + 1 : Nat) : Int) = some v) → ∀ k, K + j + 1 ≤ k → belfryref04_Make.l1 k l m (i : Int) (j : Int) = some v
 | _, _, _, 0, hk => absurd hk (by omega)
 | 0, hj, hn, k + 1, hk => by
  have := hn k (by omega)
  rw [pos] at this
  rw [belfryref04_Make.l1, if_neg (by omega), if_pos (by omega), if_pos (by omega), Option.bind_some, if_pos (by simp), Option.bind_some, if_pos (by omega), if_pos (by omega), if_pos (by simp), Option.bind_some, Option.bind_some, if_pos (by simp; omega), wrap_small (n := (i : Int) + 1) (by omega) (by omega), rd_at l i hi]
  exact this
 | j + 1, hj, hn, k + 1, hk => by
  have e1 : wrap64 (((j + 1 : Nat) : Int) - 1) = ((j : Nat) : Int) := by rw [wrap_small (by omega) (by omega)]; omega
  rw [belfryref04_Make.l1, if_pos (by omega), e1, if_pos (by omega), if_pos (by omega), if_pos (by omega), if_pos (by omega), rd_at l i hi]
  simp only [Lib.toList_data]
  by_cases h : ltK l[i] (rd_T85 m (j : Int)) = true
  ·
   have hn' : ∀ k, K ≤ k → belfryref04_Make.l0 k l (m.take (pos l[i] m j) ++ [l[i]] ++ m.drop (pos l[i] m j)) ((i + 1 : Nat) : Int) = some v := fun k hk => by
    have := hn k hk
    rw [pos, if_pos h] at this
    exact this
   rw [if_pos (show Op.bytesLess l[i].f0.data.toList (rd_T85 m (j : Int)).f0.data.toList = true from h)]
   exact ref_l1 l hl m hm i hi v K j (by omega) hn' k (by omega)
  ·
   have := hn k (by omega)
   rw [pos, if_neg h] at this
   have ht : (m.take (j + 1)).length = j + 1 := by rw [List.length_take]; omega
   have hd : (m.drop (j + 1)).length = m.length - (j + 1) := List.length_drop ..
   rw [if_neg (show ¬ Op.bytesLess l[i].f0.data.toList (rd_T85 m (j : Int)).f0.data.toList = true from h), if_pos (by omega), if_pos (by omega), Option.bind_some, Int.toNat_natCast, if_pos (by rw [ht]; simp; omega), Option.bind_some, if_pos (by rw [List.nil_append, ht]; omega), Option.bind_some, Option.bind_some, if_pos (by simp only [List.nil_append, List.length_append, ht, hd, List.length_cons, List.length_nil]; omega), wrap_small (n := (i : Int) + 1) (by omega) (by omega)]
   exact this
theorem ref_l0 (l : List S85) (hl : l.length ≤ 16) : ∀ (n i : Nat) (m : List S85), i + n = l.length → m.length = i →
  Ev (fun k => belfryref04_Make.l0 k l m (i : Int)) (if faultOf (l.drop i) ≠ 0 then ([], faultOf (l.drop i)) else if dupAdj (insAll m (l.drop i)) then ([], 6) else (insAll m (l.drop i), 0))
 | 0, i, m, hn, hm => by
  have hd : l.drop i = [] := List.drop_of_length_le (by omega)
  refine ⟨m.length + 3, fun k hk => ?_⟩
  obtain ⟨k, rfl⟩ : ∃ j, k = j + 1 := ⟨k - 1, by omega⟩
  dsimp only
  rw [belfryref04_Make.l0, if_neg (by omega), hd, if_neg (by simp [faultOf]), insAll]
  have := ref_l2 m (by omega) (m.length - 1) 1 (by omega) (by omega) k (by omega)
  rw [show ((1 : Nat) : Int) = 1 from rfl] at this
  rw [this]
  cases m with
  | nil => simp [dupAdj]
  | cons a t => simp
 | n + 1, i, m, hn, hm => by
  have hi : i < l.length := by omega
  obtain ⟨K, hK⟩ := ref_l0 l hl n (i + 1) (ins l[i] m) (by omega) (by rw [ins_len]; omega)
  obtain ⟨V, hV⟩ := ref_value_eq l[i].f1
  refine ⟨K + V + m.length + 80, fun k hk => ?_⟩
  obtain ⟨k, rfl⟩ : ∃ j, k = j + 1 := ⟨k - 1, by omega⟩
  dsimp only
  rw [belfryref04_Make.l0, if_pos (by omega), if_pos (by omega), rd_at l i hi, ref_key_eq _ k (by omega), Option.bind_some, drop_cons l i hi, faultOf]
  cases hk1 : keyB l[i].f0 with
  | false => simp
  | true =>
   have hV' := hV k (by omega)
   dsimp only at hV'
   rw [if_pos rfl, hV', Option.bind_some]
   cases hv : valB l[i].f1 with
   | false => simp
   | true =>
    rw [if_pos rfl]
    refine (ref_l1 l hl m (by omega) i hi _ K m.length (Nat.le_refl _) (fun k hk => hK k hk) k (by omega)).trans ?_
    simp only [if_true, insAll]
    rfl
theorem strict_of (m : List S85) (hm : Srt m) (h : dupAdj m = false) : m.Pairwise fun a b => ltK a b = true := by
 induction m with
 | nil => exact List.Pairwise.nil
 | cons x t ih =>
  cases t with
  | nil => exact List.pairwise_singleton _ _
  | cons y t =>
   rw [dupAdj, Bool.or_eq_false_iff] at h
   obtain ⟨h1, h2⟩ := h
   have hm' := List.pairwise_cons.1 hm
   have iht := ih hm'.2 h2
   have hxy : ltK x y = true := ltK_total (hm'.1 y (List.mem_cons_self ..)) (beq_eq_false_iff_ne.1 h1)
   refine List.pairwise_cons.2 ⟨fun b hb => ?_, iht⟩
   rcases List.mem_cons.1 hb with rfl | hb
   ·
    exact hxy
   ·
    exact ltK_trans hxy ((List.pairwise_cons.1 iht).1 b hb)
theorem ne_of_lt {a b : S85} (h : ltK a b = true) : keyL a ≠ keyL b := fun e => by
 unfold ltK at h
 rw [e, bytesLess_irrefl] at h
 cases h
theorem dup_of_ne : ∀ m : List S85, (m.Pairwise fun a b => keyL a ≠ keyL b) → dupAdj m = false
 | [], _ => rfl
 | [_], _ => rfl
 | x :: y :: t, h => by
  have h' := List.pairwise_cons.1 h
  rw [dupAdj, dup_of_ne (y :: t) h'.2, beq_eq_false_iff_ne.2 (h'.1 y (List.mem_cons_self ..))]
  rfl
theorem dup_perm {m m' : List S85} (hp : m.Perm m') (hm : Srt m) (h : dupAdj m = false) : dupAdj m' = false := by
 have h1 := (strict_of m hm h).imp ne_of_lt
 exact dup_of_ne m' ((hp.pairwise_iff (fun {a b} (e : keyL a ≠ keyL b) => e.symm)).1 h1)
theorem same_sorted {m m' : List S85} (hp : m.Perm m') (hm : Srt m) (hm' : Srt m') (h : dupAdj m = false) : m = m' :=
 hp.eq_of_pairwise (fun a b _ _ h1 h2 => absurd h2 (by rw [ltK_asym h1]; simp)) (strict_of m hm h) (strict_of m' hm' (dup_perm hp hm h))
theorem sorted_srt (l : List S85) : Srt (sorted85 l) := by
 obtain ⟨_, h2, h3⟩ := sorted85_perm l
 refine List.pairwise_iff_getElem.2 fun i j hi hj hij => ?_
 have := h3 i j (Nat.zero_le _) hij (by omega)
 rw [cmpKey_lt] at this
 simp [hi, hj] at this
 exact this
def setOf (l : List S85) : List S85 × Int :=
  if (l.length : Int) > 16 then ([], 7) else if faultOf l ≠ 0 then ([], faultOf l) else if dupAdj (sorted85 l) then ([], 6) else (sorted85 l, 0)
theorem make_eq (l : List S85) : Ev (fun k => attr_Make.f k l) (setOf l) := by
 refine ⟨200, fun k hk => ?_⟩
 dsimp only
 unfold attr_Make.f setOf
 by_cases h : (l.length : Int) > 16
 ·
  rw [if_pos h, if_pos h]
 ·
  rw [if_neg h, if_neg h]
  have := make_l0 l (by omega) l.length 0 (by omega) k (by omega)
  rw [show ((0 : Nat) : Int) = 0 from rfl, List.drop_zero] at this
  exact this
theorem ref_make_eq (l : List S85) : Ev (fun k => belfryref04_Make.f k l) (setOf l) := by
 unfold belfryref04_Make.f setOf
 by_cases h : (l.length : Int) > 16
 ·
  refine ⟨0, fun k _ => ?_⟩
  dsimp only
  rw [if_pos h, if_pos h]
 ·
  obtain ⟨K, hK⟩ := ref_l0 l (by omega) l.length 0 [] (by omega) rfl
  refine ⟨K, fun k hk => ?_⟩
  have := hK k hk
  dsimp only at this ⊢
  rw [show ((0 : Nat) : Int) = 0 from rfl, List.drop_zero] at this
  rw [if_neg h, if_neg h, this]
  have hp : (sorted85 l).Perm (insAll [] l) := (sorted85_perm l).1.trans (insAll_perm l []).symm
  have hs := sorted_srt l
  have hi : Srt (insAll [] l) := insAll_sorted l [] List.Pairwise.nil
  cases hd : dupAdj (sorted85 l) with
  | false =>
   rw [dup_perm hp hs hd, ← same_sorted hp hs hi hd]
  | true =>
   cases hd' : dupAdj (insAll [] l) with
   | true => rfl
   | false => rw [dup_perm hp.symm hi hd'] at hd; cases hd
end Go.Proofs.YtefeibndnghejaaGreatDoor.Pr
end
