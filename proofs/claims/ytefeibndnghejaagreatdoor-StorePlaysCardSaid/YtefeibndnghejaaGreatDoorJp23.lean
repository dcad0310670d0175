import Derived.Test.YtefeibndnghejaaGreatDoorJp22
import Derived.Test.YtefeibndnghejaaGreatDoorJp12
section
set_option linter.unusedVariables false
set_option linter.unusedSimpArgs false
namespace Go.Proofs.YtefeibndnghejaaGreatDoor.Pr
open Go.RowKit Go.Proofs.YtefeibndnghejaaGreatDoorW.PrintWords Go.Proofs.YtefeibndnghejaaGreatDoorW.PrintLast Go.Proofs.YtefeibndnghejaaGreatDoorW.PrintMore
theorem RsP.step {w w' : World} {base : Nat} {F : Nat → Prop} {g : Nat} {most ver : Int} {R : List Rd} {l : Value} (h : RsP w base F g most ver R l) (hm : ∀ k, F k ∨ k = g → w'.heap[k]? = w.heap[k]?) (hs : w.heap.size ≤ w'.heap.size) : RsP w' base F g most ver R l :=
 ⟨(hm g (.inr rfl)).trans h.blk, Kd.R_step h.rec_ (fun k hk _ => hm k (.inl hk)), h.ng, h.ge, fun q hq => ⟨(h.lt q hq).1, Nat.lt_of_lt_of_le (h.lt q hq).2 hs⟩, h.fine⟩
theorem Rs.step {w w' : World} {base : Nat} {F : Nat → Prop} {g : Nat} {most ver : Int} {R : List Rd} (h : Rs w base F g most ver R) (hm : ∀ k, F k ∨ k = g → w'.heap[k]? = w.heap[k]?) (hs : w.heap.size ≤ w'.heap.size) : Rs w' base F g most ver R := h.imp fun _ h => h.step hm hs
structure Two (w : World) (base : Nat) (F F' : Nat → Prop) (g g' : Nat) (most ver : Int) (R : List Rd) : Prop where
  st : St w base F g most ver R
  rs : Rs w base F' g' most ver R
  ap : ∀ q, F q → ¬ (F' q ∨ q = g')
def Pair (w : World) (base g g' : Nat) (most ver : Int) (R : List Rd) : Prop := ∃ F F', Two w base F F' g g' most ver R
theorem Two.below {w w' : World} {base : Nat} {F F' : Nat → Prop} {g g' : Nat} {most ver : Int} {R : List Rd} (h : Two w base F F' g g' most ver R) (hb : Below w.heap.size w w') : Two w' base F F' g g' most ver R :=
 ⟨h.st.below hb, h.rs.imp fun _ h => h.kept hb, h.ap⟩
theorem Rs.lt {w : World} {base : Nat} {F : Nat → Prop} {g : Nat} {most ver : Int} {R : List Rd} (h : Rs w base F g most ver R) : ∀ q, F q ∨ q = g → base ≤ q ∧ q < w.heap.size := by
 obtain ⟨l, h⟩ := h
 rintro q (hq | rfl)
 ·
  exact h.lt q hq
 ·
  exact ⟨h.ge, blk_lt h.blk⟩
theorem Two.next {w w1 w2 : World} {base : Nat} {F F' : Nat → Prop} {g g' : Nat} {most ver ver1 : Int} {R R1 : List Rd} (h : Two w base F F' g g' most ver R) (h1 : St w1 base (NewF F w w1) g most ver1 R1) (c1 : Chg F w w1)
  (h2 : Rs w2 base (NewF F' w1 w2) g' most ver1 R1) (c2 : Chg (fun q => F' q ∨ q = g') w1 w2) : Two w2 base (NewF F w w1) (NewF F' w1 w2) g g' most ver1 R1 := by
 have ap : ∀ q, NewF F w w1 q → ¬ (F' q ∨ q = g') := fun q hq hn => hq.1.elim (fun e => h.ap q e hn) (fun e => by have := (h.rs.lt q hn).2; omega)
 refine ⟨h1.step (fun k hk => c2.block k (h1.lt k hk).2 (ap k hk)) c2.size, h2, fun q hq hn => ?_⟩
 rcases hn with hn | rfl
 ·
  rcases hn.1 with hn | hn
  ·
   exact ap q hq (.inl hn)
  ·
   have := hq.2; omega
 ·
  exact ap _ hq (.inr rfl)
theorem C85_stay' {w w' : World} {A : Option Addr} {l : List S85} (h : Kd.C k85 w A l.length l) (hm : 0 < l.length → ∀ ad, A = some ad → ad.block < w.heap.size → w'.heap[ad.block]? = w.heap[ad.block]?) : Kd.C k85 w' A l.length l := by
 rcases Nat.eq_zero_or_pos l.length with hz | hz
 ·
  exact ⟨rfl, h.2.1, fun hp => by omega⟩
 ·
  exact C85_stay h (hm hz)
def opC (kind : Int) (cs : Array Value) (t : Int) : Array Value := (Value.int .i64 kind :: (cs.toList ++ [Value.int .i64 t])).toArray
theorem opC0 (kind : Int) (cs : Array Value) (t : Int) : (opC kind cs t)[0]? = some (.int .i64 kind) := rfl
theorem opC41 (kind : Int) {cs : Array Value} (hs : cs.size = 40) (t : Int) : (opC kind cs t)[41]? = some (.int .i64 t) := by
 simp only [opC, List.getElem?_toArray, List.getElem?_cons_succ]
 rw [List.getElem?_append_right (by rw [Array.length_toList, hs]; decide), Array.length_toList, hs]
 rfl
theorem opC_mid (kind : Int) (cs : Array Value) (t : Int) (j : Nat) (u : Value) (h : cs.toList[j]? = some u) : (opC kind cs t)[1 + j]? = some u := by
 simp only [opC, List.getElem?_toArray, Nat.add_comm 1 j, List.getElem?_cons_succ]
 rw [List.getElem?_append_left (List.getElem?_eq_some_iff.1 h).1]
 exact h
noncomputable def nextR (most : Int) (R : List Rd) (kind : Int) (r : Rd) (t : Int) (why : Int) : List Rd := if kind < 0 ∨ 4 < kind then keptR t R else if putE most R r why = 0 then R ++ [r] else R
def StepPost (base g g' : Nat) (most ver : Int) (R1 : List Rd) (w : World) (e : Ending) (w' : World) : Prop :=
  e = .returned (.bool true) ∧ ∃ ver', ver ≤ ver' ∧ ver' ≤ ver + 1 ∧ Pair w' base g g' most ver' R1 ∧ Below base w w'
def law_step.T2 : Bool × List (List Nat × List Nat) := (true, [([], []), ([], []), ([1], [1]), ([0, 2], [0, 2]), ([], []), ([], []), ([5], [5]), ([4, 6, 3], [4, 6]), ([3, 7], [3, 7]), ([8, 7, 0, 1, 2, 3, 4, 5, 6, 7, 8], [8])])
def law_step.B2 : List Nat := [0, 0, 2, 7, 0, 0, 32, 127, 255, 511]
set_option maxRecDepth 100000 in
theorem law_step.tab2 : rtab .any (opsOf Tryz.f20 2) = law_step.T2 := by kernel_rfl
set_option maxRecDepth 100000 in
theorem law_step.bits2 : waitsOk law_step.T2.2 law_step.B2 = true := by kernel_rfl
def law_step.T4 : Bool × List (List Nat × List Nat) := (true, [([], []), ([], []), ([1], [1]), ([2], [2]), ([0, 3], [0, 3]), ([], []), ([], []), ([6], [6]), ([5, 7, 4], [5, 7]), ([4, 8], [4, 8]), ([9, 8], [9]), ([10], [10]), ([11, 10], [10, 11]), ([12, 10], [10, 12]), ([10], [10]), ([14, 10], [10, 14]), ([13, 15, 10, 10], [10, 13, 15]), ([10, 16], [10, 16]), ([17, 16, 0, 1, 2, 3, 4, 5, 6, 7, 8, 9, 10, 11, 12, 13, 14, 15, 16, 17], [17])])
def law_step.B4 : List Nat := [0, 0, 2, 6, 15, 0, 0, 64, 255, 511, 1023, 2047, 4095, 8191, 2047, 18431, 65535, 131071, 262143]
set_option maxRecDepth 100000 in
theorem law_step.tab4 : rtab .any (opsOf Tryz.f20 4) = law_step.T4 := by kernel_rfl
set_option maxRecDepth 100000 in
theorem law_step.bits4 : waitsOk law_step.T4.2 law_step.B4 = true := by kernel_rfl
set_option maxRecDepth 100000 in
set_option maxHeartbeats 8000000 in
theorem step_walk (k1 k2 kn : Nat) (g g' : Nat) (most ver : Int) (R : List Rd) (kind t : Int) (r : Rd) (A : Option Addr) (c0 : Nat) (w : World) (base : Nat) (hT : Pair w base g g' most ver R) (hx : r.x.ok) (har : Kd.C k85 w A r.a.length r.a) (hac : r.a.length ≤ c0) (hal : r.a.length < 4398046511104)
    (why : Int) (hw1 : attr_Right.f k1 r.a = some why) (hw2 : belfryref04_Right.f k2 r.a = some why) (hfine : why = 0 → r.fine) (sm : Rd → Bool) (hsm : ∀ s ∈ R, belfryref04_Same.f kn r.a s.a = some (sm s)) (hself : belfryref04_Same.f kn r.a r.a = some true)
    (hE : putE most R r why = refE most R r sm why) (hAb : 0 < r.a.length → ∀ ad, A = some ad → ad.block < base) (hab : base ≤ w.heap.size)
    (hR : R.length < 1000000) (hv : -4611686018427387903 < ver ∧ ver < 4611686018427387903) (he : EnvW w) :
    Calls Tryz.prog 20 #[.pointer (some ⟨g, 0, none⟩), .pointer (some ⟨g', 0, none⟩), .agg (opC kind (r.x.cells (.slice A r.a.length c0)) t)] w (StepPost base g g' most ver (nextR most R kind r t why) w) := by
  have hu36 := Tryz.underlying36
  obtain ⟨F, F', hT⟩ := hT
  obtain ⟨cs, hcs⟩ : ∃ cs, cs = r.x.cells (.slice A r.a.length c0) := ⟨_, rfl⟩
  have hs : cs.size = 40 := by rw [hcs]; exact Rc.size hx _
  rw [← hcs]
  have o0 := opC0 kind cs t
  have o41 := opC41 kind hs t
  have om := opC_mid kind cs t
  generalize opC kind cs t = oc at o0 o41 om ⊢
  obtain ⟨W1, hW1⟩ : ∃ W1, W1 = w.alloc (.cells oc 51) := ⟨_, rfl⟩
  have hbw : Below w.heap.size w W1 := hW1 ▸ below_alloc (Below.refl _ _) _
  have hob : W1.heap[w.heap.size]? = some (.cells oc 51 (0, 0)) := hW1 ▸ blk_new w _
  have k0 := (blk_cell hob 0).trans o0
  have HT1 := Aside0.mk (hT.below hbw)
  have HW1S : Aside0 (W1.heap.size = w.heap.size + 1) := ⟨by rw [hW1]; simp⟩
  have hlt : ∀ q, F q → q < w.heap.size := fun q hq => (hT.st.lt q hq).2
  have hlt' : ∀ q, F' q ∨ q = g' → q < w.heap.size := fun q hq => (hT.rs.lt q hq).2
  have HLT := Aside0.mk (And.intro hlt hlt')
  have HOB := Aside0.mk hob
  have HBW := Aside0.mk hbw
  have HCS := Aside0.mk hcs
  have HX := Aside0.mk hx
  have HR := Aside0.mk har
  have HC := Aside0.mk hac
  have HAL := Aside0.mk hal
  have HW1 := Aside0.mk hw1
  have HW2 := Aside0.mk hw2
  have HFI := Aside0.mk hfine
  have HSM := Aside0.mk hsm
  have HSF := Aside0.mk hself
  have HE := Aside0.mk hE
  have HAB := Aside0.mk (And.intro hAb hab)
  have HRL := Aside0.mk hR
  have HV := Aside0.mk hv
  have HEN := Aside0.mk he
  have HOM := Aside0.mk om
  have HO41 := Aside0.mk o41
  clear hT hbw hob hlt hlt' hcs hx har hac hal hw1 hw2 hfine hsm hself hE hAb hab hR hv he om o41 o0
  by_cases hkd : kind < 0 ∨ 4 < kind
  · have HNX : Aside0 (nextR most R kind r t why = keptR t R) := ⟨by unfold nextR; rw [if_pos hkd]⟩
    rw [HNX.out]
    have fin : ∀ (w5 : World) (W0 w3 : World), Below W1.heap.size W1 W0 → CutPost base F g most ver R t W0 (.returned (.int .i64 ((R.length - (keptR t R).length : Nat) : Int))) w3 → RCutPost base F' g' most ver R t w3 (.returned (.int .i64 ((R.length - (keptR t R).length : Nat) : Int))) w5 → StepPost base g g' most ver (keptR t R) w (.returned (.bool true)) w5 := by
      intro w5 W0 w3 hb0 ⟨_, hc3, hs3⟩ ⟨_, hc5, hs5⟩
      have hT0 := HT1.out.below hb0
      have hab := HAB.out.2
      have s1 := HBW.out.size
      have s2 := hb0.size
      have s3 := hc3.size
      have hT3 : Rs w3 base F' g' most ver R := hT0.rs.step (fun k hk => hc3.block k (hT0.rs.lt k hk).2 (fun e => hT0.ap k e hk)) hc3.size
      refine ⟨rfl, (if (keptR t R).length < R.length then ver + 1 else ver), by split <;> omega, by split <;> omega, ⟨_, _, hT0.next hs3 hc3 hs5 hc5⟩, ?_⟩
      have b1 := hc3.below (B := base) (fun q hq => (hT0.st.lt q hq).1) (by omega)
      have b2 := hc5.below (B := base) (fun q hq => (hT3.lt q hq).1) (by omega)
      exact (((HBW.out.mono hab).trans (hb0.mono (by omega))).trans b1).trans b2
    have FIN := Aside0.mk fin
    clear fin
    by_cases hk0 : kind < 0
    · have b1 : decide (kind < 0) = true := decide_eq_true hk0
      go_enter Tryz.func20, Tryz.ntmps20
      go_upto_region 1 with (fail)
      rw [← hW1]
      clear hW1
      go_upto_region 2 with (fail)
      refine start_ (n := 10) (S := fun w' => w'.heap[w.heap.size]? = some (.cells oc 51 (0, 0))) (ds := [9]) #[false, false, false, false, false, false, false, false, false, false] (by kernel_rfl) rfl rfl HOB.out (fun hHeld => ?_)
      refine with_tabW law_step.tab2 law_step.bits2 (fun HT_ HW_ => ?_)
      have HBD := Aside0.mk (below_drew1 (Below.refl W1.heap.size W1))
      have HTD := Aside0.mk (HT1.out.below HBD.out)
      generalize W1.drew = W0 at hHeld HBD HTD ⊢
      refine pure_ (i := 0) (N := some 17) (v := ?_) (a' := ?_) #[true, false, false, false, false, false, false, false, false, false] rfl rfl (any_of HT_.out (by kernel_rfl)) (fun _ _ _ h => h) (Or.inl ⟨by rfl, ?_⟩) ?_ ?_
      rotate_left
      · intro w'
        go_simp
        with_reducible rfl
      rotate_left
      · simp only [Act.put, List.setIfInBounds_toArray, List.set_cons_zero, List.set_cons_succ, i64_w, i32_w]
        rfl
      refine pure_ (i := 1) (N := some 18) (v := ?_) (a' := ?_) #[true, true, false, false, false, false, false, false, false, false] rfl rfl (any_of HT_.out (by kernel_rfl)) (fun _ _ _ h => h) (Or.inl ⟨by rfl, ?_⟩) ?_ ?_
      rotate_left
      · intro w'
        go_simp
        with_reducible rfl
      rotate_left
      · simp only [Act.put, List.setIfInBounds_toArray, List.set_cons_zero, List.set_cons_succ, i64_w, i32_w]
        rfl
      refine take_ (i := 2) (N := some 19) (v := ?_) (a' := ?_) #[true, true, true, false, false, false, false, false, false, false] rfl rfl (take_ofW HT_.out HW_.out (by kernel_rfl)) (fun _ _ _ h => h) (Or.inl ⟨by rfl, ?_⟩) hHeld ?_ ?_
      rotate_left
      · rintro w' yo
        have y := (blk_cell yo 41).trans HO41.out
        go_simp
        with_reducible rfl
      rotate_left
      · simp only [Act.put, List.setIfInBounds_toArray, List.set_cons_zero, List.set_cons_succ, i64_w, i32_w]
        rfl
      refine pure_ (i := 4) (N := some 21) (v := ?_) (a' := ?_) #[true, true, true, false, true, false, false, false, false, false] rfl rfl (any_of HT_.out (by kernel_rfl)) (fun _ _ _ h => h) (Or.inl ⟨by rfl, ?_⟩) ?_ ?_
      rotate_left
      · intro w'
        go_simp
        with_reducible rfl
      rotate_left
      · simp only [Act.put, List.setIfInBounds_toArray, List.set_cons_zero, List.set_cons_succ, i64_w, i32_w]
        rfl
      refine pure_ (i := 5) (N := some 22) (v := ?_) (a' := ?_) #[true, true, true, false, true, true, false, false, false, false] rfl rfl (any_of HT_.out (by kernel_rfl)) (fun _ _ _ h => h) (Or.inl ⟨by rfl, ?_⟩) ?_ ?_
      rotate_left
      · intro w'
        go_simp
        with_reducible rfl
      rotate_left
      · simp only [Act.put, List.setIfInBounds_toArray, List.set_cons_zero, List.set_cons_succ, i64_w, i32_w]
        rfl
      refine take_ (i := 6) (N := some 23) (v := ?_) (a' := ?_) #[true, true, true, false, true, true, true, false, false, false] rfl rfl (take_ofW HT_.out HW_.out (by kernel_rfl)) (fun _ _ _ h => h) (Or.inl ⟨by rfl, ?_⟩) hHeld ?_ ?_
      rotate_left
      · rintro w' yo
        have y := (blk_cell yo 41).trans HO41.out
        go_simp
        with_reducible rfl
      rotate_left
      · simp only [Act.put, List.setIfInBounds_toArray, List.set_cons_zero, List.set_cons_succ, i64_w, i32_w]
        rfl
      refine one_ (i := 3) (N := some 20) #[true, true, true, true, true, true, true, false, false, false] rfl rfl (one_of HT_.out (by kernel_rfl)) (by decide) (fun K hK => ?_)
      refine goes_ Tryz.func17 (by kernel_rfl) rfl #[.pointer (some ⟨g, 0, none⟩), .int .i64 t] (by rfl) rfl rfl (by (try simp only [List.map_toArray, List.map_cons, List.map_nil]); first | done | rfl) ?_
      refine (cut_walk g most ver t R F W0 base HTD.out.st (by have := HRL.out; omega) (by have := HV.out; omega) (by have h1 := HAB.out.2; have h2 := HBW.out.size; have h3 := HBD.out.size; omega)).mono ?_
      rintro e w2 hp3
      have he3 := hp3.1
      subst he3
      have HP3 := Aside0.mk hp3
      have HCH3 := Aside0.mk hp3.2.1
      clear hp3
      refine ⟨_, rfl, ?_⟩
      refine hK.out _ _ ((HCH3.out.block _ (blk_lt hHeld) (fun e => by have := HLT.out.1 _ e; omega)).trans hHeld) (fun hHeld => ?_)
      clear hK K
      refine norm_ (a' := ?_) ?_ ?_
      rotate_left
      · show Act.put _ (some 20) _ = _
        simp only [Act.put, List.setIfInBounds_toArray, List.set_cons_zero, List.set_cons_succ, i64_w, i32_w]
        rfl
      have HRS3 : Aside0 (Rs w2 base F' g' most ver R) := ⟨HTD.out.rs.step (fun k hk => HCH3.out.block k (HTD.out.rs.lt k hk).2 (fun e => HTD.out.ap k e hk)) HCH3.out.size⟩
      obtain ⟨l3, hrs3⟩ := HRS3.out
      have HRSP := Aside0.mk hrs3
      clear hrs3
      refine one_ (i := 7) (N := some 24) #[true, true, true, true, true, true, true, true, false, false] rfl rfl (one_of HT_.out (by kernel_rfl)) (by decide) (fun K hK => ?_)
      refine goes_ Tryz.func49 (by kernel_rfl) rfl #[.pointer (some ⟨g', 0, none⟩), .int .i64 t] (by rfl) rfl rfl (by (try simp only [List.map_toArray, List.map_cons, List.map_nil]); first | done | rfl) ?_
      refine (rcut_walk g' most ver t R F' w2 base l3 HRSP.out (by have := HRL.out; omega) (by have := HV.out; omega) (by have h1 := HAB.out.2; have h2 := HBW.out.size; have h3 := HBD.out.size; have h4 := HCH3.out.size; omega)).mono ?_
      rintro e w3 hp4
      have he4 := hp4.1
      subst he4
      have HP4 := Aside0.mk hp4
      have HCH4 := Aside0.mk hp4.2.1
      clear hp4
      refine ⟨_, rfl, ?_⟩
      refine hK.out _ _ ((HCH4.out.block _ (blk_lt hHeld) (fun e => by have := HLT.out.2 _ e; omega)).trans hHeld) (fun hHeld => ?_)
      clear hK K
      refine norm_ (a' := ?_) ?_ ?_
      rotate_left
      · show Act.put _ (some 24) _ = _
        simp only [Act.put, List.setIfInBounds_toArray, List.set_cons_zero, List.set_cons_succ, i64_w, i32_w]
        rfl
      generalize hEE : ((R.length - (keptR t R).length : Nat) : Int) = E at HP3 HP4 FIN ⊢
      refine pure_ (i := 8) (N := some 25) (v := ?_) (a' := ?_) #[true, true, true, true, true, true, true, true, true, false] rfl rfl (any_of HT_.out (by kernel_rfl)) (fun _ _ _ h => h) (Or.inl ⟨by rfl, ?_⟩) ?_ ?_
      rotate_left
      · intro w'
        go_simp
        with_reducible rfl
      rotate_left
      · simp only [Act.put, List.setIfInBounds_toArray, List.set_cons_zero, List.set_cons_succ, i64_w, i32_w]
        rfl
      refine pure_ (i := 9) (N := some 6) (v := ?_) (a' := ?_) #[true, true, true, true, true, true, true, true, true, true] rfl rfl (any_of HT_.out (by kernel_rfl)) (fun _ _ _ h => h) (Or.inl ⟨by rfl, ?_⟩) ?_ ?_
      rotate_left
      · intro w'
        go_simp
        with_reducible rfl
      rotate_left
      · simp only [Act.put, List.setIfInBounds_toArray, List.set_cons_zero, List.set_cons_succ, i64_w, i32_w]
        rfl
      refine done_ (done_of HT_.out (by kernel_rfl)) ?_
      go_wp2
      go_ret
      exact FIN.out _ W0 w2 HBD.out HP3.out HP4.out
    · have b1 : decide (kind < 0) = false := decide_eq_false hk0
      have b2 : decide (4 < kind) = true := decide_eq_true (by omega)
      go_enter Tryz.func20, Tryz.ntmps20
      go_upto_region 1 with (fail)
      rw [← hW1]
      clear hW1
      go_upto_region 2 with (fail)
      refine start_ (n := 10) (S := fun w' => w'.heap[w.heap.size]? = some (.cells oc 51 (0, 0))) (ds := [9]) #[false, false, false, false, false, false, false, false, false, false] (by kernel_rfl) rfl rfl HOB.out (fun hHeld => ?_)
      refine with_tabW law_step.tab2 law_step.bits2 (fun HT_ HW_ => ?_)
      have HBD := Aside0.mk (below_drew1 (Below.refl W1.heap.size W1))
      have HTD := Aside0.mk (HT1.out.below HBD.out)
      generalize W1.drew = W0 at hHeld HBD HTD ⊢
      refine pure_ (i := 0) (N := some 17) (v := ?_) (a' := ?_) #[true, false, false, false, false, false, false, false, false, false] rfl rfl (any_of HT_.out (by kernel_rfl)) (fun _ _ _ h => h) (Or.inl ⟨by rfl, ?_⟩) ?_ ?_
      rotate_left
      · intro w'
        go_simp
        with_reducible rfl
      rotate_left
      · simp only [Act.put, List.setIfInBounds_toArray, List.set_cons_zero, List.set_cons_succ, i64_w, i32_w]
        rfl
      refine pure_ (i := 1) (N := some 18) (v := ?_) (a' := ?_) #[true, true, false, false, false, false, false, false, false, false] rfl rfl (any_of HT_.out (by kernel_rfl)) (fun _ _ _ h => h) (Or.inl ⟨by rfl, ?_⟩) ?_ ?_
      rotate_left
      · intro w'
        go_simp
        with_reducible rfl
      rotate_left
      · simp only [Act.put, List.setIfInBounds_toArray, List.set_cons_zero, List.set_cons_succ, i64_w, i32_w]
        rfl
      refine take_ (i := 2) (N := some 19) (v := ?_) (a' := ?_) #[true, true, true, false, false, false, false, false, false, false] rfl rfl (take_ofW HT_.out HW_.out (by kernel_rfl)) (fun _ _ _ h => h) (Or.inl ⟨by rfl, ?_⟩) hHeld ?_ ?_
      rotate_left
      · rintro w' yo
        have y := (blk_cell yo 41).trans HO41.out
        go_simp
        with_reducible rfl
      rotate_left
      · simp only [Act.put, List.setIfInBounds_toArray, List.set_cons_zero, List.set_cons_succ, i64_w, i32_w]
        rfl
      refine pure_ (i := 4) (N := some 21) (v := ?_) (a' := ?_) #[true, true, true, false, true, false, false, false, false, false] rfl rfl (any_of HT_.out (by kernel_rfl)) (fun _ _ _ h => h) (Or.inl ⟨by rfl, ?_⟩) ?_ ?_
      rotate_left
      · intro w'
        go_simp
        with_reducible rfl
      rotate_left
      · simp only [Act.put, List.setIfInBounds_toArray, List.set_cons_zero, List.set_cons_succ, i64_w, i32_w]
        rfl
      refine pure_ (i := 5) (N := some 22) (v := ?_) (a' := ?_) #[true, true, true, false, true, true, false, false, false, false] rfl rfl (any_of HT_.out (by kernel_rfl)) (fun _ _ _ h => h) (Or.inl ⟨by rfl, ?_⟩) ?_ ?_
      rotate_left
      · intro w'
        go_simp
        with_reducible rfl
      rotate_left
      · simp only [Act.put, List.setIfInBounds_toArray, List.set_cons_zero, List.set_cons_succ, i64_w, i32_w]
        rfl
      refine take_ (i := 6) (N := some 23) (v := ?_) (a' := ?_) #[true, true, true, false, true, true, true, false, false, false] rfl rfl (take_ofW HT_.out HW_.out (by kernel_rfl)) (fun _ _ _ h => h) (Or.inl ⟨by rfl, ?_⟩) hHeld ?_ ?_
      rotate_left
      · rintro w' yo
        have y := (blk_cell yo 41).trans HO41.out
        go_simp
        with_reducible rfl
      rotate_left
      · simp only [Act.put, List.setIfInBounds_toArray, List.set_cons_zero, List.set_cons_succ, i64_w, i32_w]
        rfl
      refine one_ (i := 3) (N := some 20) #[true, true, true, true, true, true, true, false, false, false] rfl rfl (one_of HT_.out (by kernel_rfl)) (by decide) (fun K hK => ?_)
      refine goes_ Tryz.func17 (by kernel_rfl) rfl #[.pointer (some ⟨g, 0, none⟩), .int .i64 t] (by rfl) rfl rfl (by (try simp only [List.map_toArray, List.map_cons, List.map_nil]); first | done | rfl) ?_
      refine (cut_walk g most ver t R F W0 base HTD.out.st (by have := HRL.out; omega) (by have := HV.out; omega) (by have h1 := HAB.out.2; have h2 := HBW.out.size; have h3 := HBD.out.size; omega)).mono ?_
      rintro e w2 hp3
      have he3 := hp3.1
      subst he3
      have HP3 := Aside0.mk hp3
      have HCH3 := Aside0.mk hp3.2.1
      clear hp3
      refine ⟨_, rfl, ?_⟩
      refine hK.out _ _ ((HCH3.out.block _ (blk_lt hHeld) (fun e => by have := HLT.out.1 _ e; omega)).trans hHeld) (fun hHeld => ?_)
      clear hK K
      refine norm_ (a' := ?_) ?_ ?_
      rotate_left
      · show Act.put _ (some 20) _ = _
        simp only [Act.put, List.setIfInBounds_toArray, List.set_cons_zero, List.set_cons_succ, i64_w, i32_w]
        rfl
      have HRS3 : Aside0 (Rs w2 base F' g' most ver R) := ⟨HTD.out.rs.step (fun k hk => HCH3.out.block k (HTD.out.rs.lt k hk).2 (fun e => HTD.out.ap k e hk)) HCH3.out.size⟩
      obtain ⟨l3, hrs3⟩ := HRS3.out
      have HRSP := Aside0.mk hrs3
      clear hrs3
      refine one_ (i := 7) (N := some 24) #[true, true, true, true, true, true, true, true, false, false] rfl rfl (one_of HT_.out (by kernel_rfl)) (by decide) (fun K hK => ?_)
      refine goes_ Tryz.func49 (by kernel_rfl) rfl #[.pointer (some ⟨g', 0, none⟩), .int .i64 t] (by rfl) rfl rfl (by (try simp only [List.map_toArray, List.map_cons, List.map_nil]); first | done | rfl) ?_
      refine (rcut_walk g' most ver t R F' w2 base l3 HRSP.out (by have := HRL.out; omega) (by have := HV.out; omega) (by have h1 := HAB.out.2; have h2 := HBW.out.size; have h3 := HBD.out.size; have h4 := HCH3.out.size; omega)).mono ?_
      rintro e w3 hp4
      have he4 := hp4.1
      subst he4
      have HP4 := Aside0.mk hp4
      have HCH4 := Aside0.mk hp4.2.1
      clear hp4
      refine ⟨_, rfl, ?_⟩
      refine hK.out _ _ ((HCH4.out.block _ (blk_lt hHeld) (fun e => by have := HLT.out.2 _ e; omega)).trans hHeld) (fun hHeld => ?_)
      clear hK K
      refine norm_ (a' := ?_) ?_ ?_
      rotate_left
      · show Act.put _ (some 24) _ = _
        simp only [Act.put, List.setIfInBounds_toArray, List.set_cons_zero, List.set_cons_succ, i64_w, i32_w]
        rfl
      generalize hEE : ((R.length - (keptR t R).length : Nat) : Int) = E at HP3 HP4 FIN ⊢
      refine pure_ (i := 8) (N := some 25) (v := ?_) (a' := ?_) #[true, true, true, true, true, true, true, true, true, false] rfl rfl (any_of HT_.out (by kernel_rfl)) (fun _ _ _ h => h) (Or.inl ⟨by rfl, ?_⟩) ?_ ?_
      rotate_left
      · intro w'
        go_simp
        with_reducible rfl
      rotate_left
      · simp only [Act.put, List.setIfInBounds_toArray, List.set_cons_zero, List.set_cons_succ, i64_w, i32_w]
        rfl
      refine pure_ (i := 9) (N := some 6) (v := ?_) (a' := ?_) #[true, true, true, true, true, true, true, true, true, true] rfl rfl (any_of HT_.out (by kernel_rfl)) (fun _ _ _ h => h) (Or.inl ⟨by rfl, ?_⟩) ?_ ?_
      rotate_left
      · intro w'
        go_simp
        with_reducible rfl
      rotate_left
      · simp only [Act.put, List.setIfInBounds_toArray, List.set_cons_zero, List.set_cons_succ, i64_w, i32_w]
        rfl
      refine done_ (done_of HT_.out (by kernel_rfl)) ?_
      go_wp2
      go_ret
      exact FIN.out _ W0 w2 HBD.out HP3.out HP4.out
  · have b1 : decide (kind < 0) = false := decide_eq_false (by omega)
    have b2 : decide (4 < kind) = false := decide_eq_false (by omega)
    go_enter Tryz.func20, Tryz.ntmps20
    go_upto_region 1 with (fail)
    rw [← hW1]
    clear hW1
    go_wp2_with (refine wpList_load_mid rfl 36 (.tmp 26) rfl w.heap.size 1 rfl cs.toList _ (fun j u hu => (blk_cell HOB.out _).trans (HOM.out j u hu)) hu36 rfl (by rw [Array.length_toList, hs]; kernel_rfl) (Aside0.out ?_))
    refine ⟨?_⟩
    refine wpList_buildRec 27 rfl rfl (some 28) rfl hs rfl ?_
    go_wp2_with fail
    refine (lent1_walk W1.heap.size r.x HX.out A c0 r.a (W1.alloc (.cells cs 36)) (HCS.out ▸ blk_new W1 _) (Kd.C_below HR.out (below_step HBW.out (below_alloc (Below.refl _ _) _))) HC.out HAL.out).mono ?_
    rintro e w2 ⟨v2, rfl, hR2, hb2⟩
    have hb12 : Below W1.heap.size W1 w2 := (below_alloc (Below.refl _ _) _).trans (hb2.mono (by simp))
    have hb02 := below_step HBW.out hb12
    obtain ⟨A2, c2, rfl⟩ := Kd.R_slice hR2
    have hR2' := Kd.R_bound hR2
    obtain ⟨go, cur, ok', rfl, hgo, hgh, -, -, hok', hrows⟩ := row_cells hR2 (by simp)
    obtain ⟨x', cc, hx', ⟨-, v3, rfl, hMR⟩, hcc⟩ := hrows 0 (by simp)
    obtain rfl : r = x' := by simpa using hx'
    obtain ⟨B2, cb2, rfl⟩ := Kd.R_slice hMR
    obtain ⟨es, hes⟩ : ∃ es, es = r.x.cells (.slice B2 r.a.length cb2) := ⟨_, rfl⟩
    have hes40 : es.size = 40 := by rw [hes]; exact Rc.size HX.out _
    have hcur : ∀ q u, es.toList[q]? = some u → cur[0 + q]? = some u := fun q u hu => by
      have hq : q < 40 := by have := (List.getElem?_eq_some_iff.1 hu).1; rwa [Array.length_toList, hes40] at this
      rw [hes] at hu
      have h9 := hcc q hq
      rw [Nat.zero_mul] at h9
      exact h9.trans hu
    have hgos : w.heap.size + 1 < go := by have h1 := HW1S.out
                                           simp only [World.size_alloc, h1] at hgo; omega
    have hB2f : ∀ ad, B2 = some ad → w.heap.size ≤ ad.block := fun ad e => by
      subst e
      obtain ⟨q, rfl⟩ := R_addr hMR
      have h1 := HW1S.out
      have := Kd.R_base hMR q rfl
      simp only [World.size_alloc, h1] at this
      show w.heap.size ≤ q
      omega
    have hC2 := (Kd.R_reads' hMR).2
    have HES := Aside0.mk hes
    have HCUR := Aside0.mk hcur
    have HGO := Aside0.mk (And.intro hgos hgh)
    have HB2F := Aside0.mk hB2f
    have HC2 := Aside0.mk hC2
    have HB02 := Aside0.mk hb02
    have HR2 := Aside0.mk hR2'
    have HOB2 := Aside0.mk (blk_below HOB.out hb12)
    have HT2 := Aside0.mk (HT1.out.below hb12)
    have HEN2 := Aside0.mk (env_below HEN.out hb02)
    have HCA2 := Aside0.mk (Kd.C_below HR.out hb02)
    have HL2 := Aside0.mk (show go < w2.heap.size from blk_lt hgh)
    clear hb12 hb02 hR2 hR2' hgo hgh hok' hrows hx' hcc hMR hes hcur hgos hB2f hC2 hb2
    go_upto_region 4 with (fail)
    refine start_ (n := 19) (S := fun w' => w'.heap[go]? = some (.cells cur 36 (0, 0)) ∧ w'.heap[w.heap.size]? = some (.cells oc 51 (0, 0))) (ds := [18]) #[false, false, false, false, false, false, false, false, false, false, false, false, false, false, false, false, false, false, false] (by kernel_rfl) rfl rfl ⟨HGO.out.2, HOB2.out⟩ (fun hHeld => ?_)
    refine with_tabW law_step.tab4 law_step.bits4 (fun HT_ HW_ => ?_)
    have HBD := Aside0.mk (below_drew1 (Below.refl w2.heap.size w2))
    have HTD := Aside0.mk (HT2.out.below HBD.out)
    generalize w2.drew = W0 at hHeld HBD HTD ⊢
    refine pure_ (i := 0) (N := some 30) (v := ?_) (a' := ?_) #[true, false, false, false, false, false, false, false, false, false, false, false, false, false, false, false, false, false, false] rfl rfl (any_of HT_.out (by kernel_rfl)) (fun _ _ _ h => h) (Or.inl ⟨by rfl, ?_⟩) ?_ ?_
    rotate_left
    · intro w'
      go_simp
      with_reducible rfl
    rotate_left
    · simp only [Act.put, List.setIfInBounds_toArray, List.set_cons_zero, List.set_cons_succ, i64_w, i32_w]
      rfl
    refine pure_ (i := 1) (N := some 31) (v := ?_) (a' := ?_) #[true, true, false, false, false, false, false, false, false, false, false, false, false, false, false, false, false, false, false] rfl rfl (any_of HT_.out (by kernel_rfl)) (fun _ _ _ h => h) (Or.inl ⟨by rfl, ?_⟩) ?_ ?_
    rotate_left
    · intro w'
      go_simp
      with_reducible rfl
    rotate_left
    · simp only [Act.put, List.setIfInBounds_toArray, List.set_cons_zero, List.set_cons_succ, i64_w, i32_w]
      rfl
    refine pure_ (i := 2) (N := some 32) (v := ?_) (a' := ?_) #[true, true, true, false, false, false, false, false, false, false, false, false, false, false, false, false, false, false, false] rfl rfl (any_of HT_.out (by kernel_rfl)) (fun _ _ _ h => h) (Or.inl ⟨by rfl, ?_⟩) ?_ ?_
    rotate_left
    · intro w'
      go_simp
      with_reducible rfl
    rotate_left
    · simp only [Act.put, List.setIfInBounds_toArray, List.set_cons_zero, List.set_cons_succ, i64_w, i32_w]
      rfl
    refine take_ (i := 3) (N := some 33) (v := ?_) (a' := ?_) #[true, true, true, true, false, false, false, false, false, false, false, false, false, false, false, false, false, false, false] rfl rfl (take_ofW HT_.out HW_.out (by kernel_rfl)) (fun _ _ _ h => h) (Or.inl ⟨by rfl, ?_⟩) hHeld ?_ ?_
    rotate_left
    · rintro w' ⟨yg, yo⟩
      refine exec_mid36 (x := .tmp 32) ?_ ?_ (i := 0) (fun q u hu => (blk_cell yg _).trans (HCUR.out q u hu)) hes40
      · rfl
      · rfl
    rotate_left
    · simp only [Act.put, List.setIfInBounds_toArray, List.set_cons_zero, List.set_cons_succ, i64_w, i32_w]
      rfl
    refine pure_ (i := 5) (N := some 35) (v := ?_) (a' := ?_) #[true, true, true, true, false, true, false, false, false, false, false, false, false, false, false, false, false, false, false] rfl rfl (any_of HT_.out (by kernel_rfl)) (fun _ _ _ h => h) (Or.inl ⟨by rfl, ?_⟩) ?_ ?_
    rotate_left
    · intro w'
      go_simp
      with_reducible rfl
    rotate_left
    · simp only [Act.put, List.setIfInBounds_toArray, List.set_cons_zero, List.set_cons_succ, i64_w, i32_w]
      rfl
    refine pure_ (i := 6) (N := some 36) (v := ?_) (a' := ?_) #[true, true, true, true, false, true, true, false, false, false, false, false, false, false, false, false, false, false, false] rfl rfl (any_of HT_.out (by kernel_rfl)) (fun _ _ _ h => h) (Or.inl ⟨by rfl, ?_⟩) ?_ ?_
    rotate_left
    · intro w'
      go_simp
      with_reducible rfl
    rotate_left
    · simp only [Act.put, List.setIfInBounds_toArray, List.set_cons_zero, List.set_cons_succ, i64_w, i32_w]
      rfl
    refine take_ (i := 7) (N := some 37) (v := ?_) (a' := ?_) #[true, true, true, true, false, true, true, true, false, false, false, false, false, false, false, false, false, false, false] rfl rfl (take_ofW HT_.out HW_.out (by kernel_rfl)) (fun _ _ _ h => h) (Or.inl ⟨by rfl, ?_⟩) hHeld ?_ ?_
    rotate_left
    · rintro w' ⟨yg, yo⟩
      refine exec_mid36 (x := .tmp 36) ?_ ?_ (i := 1) (fun q u hu => (blk_cell yo _).trans (HOM.out q u hu)) hs
      · rfl
      · rfl
    rotate_left
    · simp only [Act.put, List.setIfInBounds_toArray, List.set_cons_zero, List.set_cons_succ, i64_w, i32_w]
      rfl
    refine one_ (i := 4) (N := some 34) #[true, true, true, true, true, true, true, true, false, false, false, false, false, false, false, false, false, false, false] rfl rfl (one_of HT_.out (by kernel_rfl)) (by decide) (fun K hK => ?_)
    refine goes_ Tryz.func32 (by kernel_rfl) rfl #[.pointer (some ⟨g, 0, none⟩), .agg es] (by rfl) rfl rfl (by (try simp only [List.map_toArray, List.map_cons, List.map_nil]); first | done | rfl) ?_
    refine (HES.out ▸ put_walk k1 g most ver R F r B2 cb2 W0 base HTD.out.st HX.out (Kd.C_below HC2.out.2 HBD.out) HC2.out.1 why HW1.out (fun h => ⟨HFI.out h, by have := HAL.out; omega⟩) (fun ad e hF => by have h1 := HB2F.out ad e; have h2 := HLT.out.1 _ hF; omega) (by have := HRL.out; omega) (by have := HV.out; omega) (by have h1 := HAB.out.2; have h2 := HB02.out.size; have h3 := HBD.out.size; omega) (env_below HEN2.out HBD.out)).mono ?_
    rintro e w3 ⟨rfl, hc3, hst3⟩
    have HCH3 := Aside0.mk hc3
    have HST3 := Aside0.mk hst3
    refine ⟨_, rfl, ?_⟩
    refine hK.out _ _ ⟨(HCH3.out.block go (Nat.lt_of_lt_of_le HL2.out HBD.out.size) (fun e => by have := HLT.out.1 _ e; have := HGO.out.1; omega)).trans hHeld.1, (HCH3.out.block _ (by have h2 := HB02.out.size; have h3 := HBD.out.size; have := (blk_lt HOB2.out); omega) (fun e => by have := HLT.out.1 _ e; omega)).trans hHeld.2⟩ (fun hHeld => ?_)
    clear hK K hc3 hst3
    refine norm_ (a' := ?_) ?_ ?_
    rotate_left
    · show Act.put _ (some 34) _ = _
      simp only [Act.put, List.setIfInBounds_toArray, List.set_cons_zero, List.set_cons_succ, i64_w, i32_w]
      rfl
    have HL3 := Aside0.mk (show go < w3.heap.size from blk_lt hHeld.1)
    have h03 := (below_step HB02.out HBD.out).size
    have HRS3 : Aside0 (Rs w3 base F' g' most ver R) := ⟨HTD.out.rs.step (fun k hk => HCH3.out.block k (by have := HLT.out.2 k hk; omega) (fun e => HTD.out.ap k e hk)) HCH3.out.size⟩
    obtain ⟨l3, hrs3⟩ := HRS3.out
    have HRSP := Aside0.mk hrs3
    have HCA3 : Aside0 (Kd.C k85 w3 A r.a.length r.a) := ⟨C85_stay' (Kd.C_below HCA2.out HBD.out) (fun hz ad e hlt => HCH3.out.block _ hlt (fun hF => by have h1 := HAB.out.1 hz ad e; have h2 := (HTD.out.st.lt _ hF).1; omega))⟩
    have HC23 : Aside0 (Kd.C k85 w3 B2 r.a.length r.a) := ⟨C85_stay (Kd.C_below HC2.out.2 HBD.out) (fun ad e hlt => HCH3.out.block _ hlt (fun hF => by have h1 := HB2F.out ad e; have h2 := HLT.out.1 _ hF; omega))⟩
    clear hrs3
    refine one_ (i := 8) (N := some 38) #[true, true, true, true, true, true, true, true, true, false, false, false, false, false, false, false, false, false, false] rfl rfl (one_of HT_.out (by kernel_rfl)) (by decide) (fun K hK => ?_)
    refine goes_ Tryz.func50 (by kernel_rfl) rfl #[.pointer (some ⟨g', 0, none⟩), .agg cs] (by rfl) rfl rfl (by (try simp only [List.map_toArray, List.map_cons, List.map_nil]); first | done | rfl) ?_
    refine (HCS.out ▸ rput_walk k2 kn g' most ver R F' r A c0 w3 base l3 HRSP.out HX.out HCA3.out HC.out why HW2.out HFI.out sm HSM.out (by have := HRL.out; omega) (by have := HV.out; omega) (by have h1 := HAB.out.2; have := HCH3.out.size; omega)).mono ?_
    rintro e w4 ⟨rfl, hc4, hrs4⟩
    rw [← HE.out] at hrs4 ⊢
    have HCH4 := Aside0.mk hc4
    have HRS4 := Aside0.mk hrs4
    refine ⟨_, rfl, ?_⟩
    refine hK.out _ _ ⟨(HCH4.out.block go HL3.out (fun e => by have := HLT.out.2 _ e; have := HGO.out.1; omega)).trans hHeld.1, (HCH4.out.block _ (blk_lt hHeld.2) (fun e => by have := HLT.out.2 _ e; omega)).trans hHeld.2⟩ (fun hHeld => ?_)
    clear hK K hc4 hrs4
    refine norm_ (a' := ?_) ?_ ?_
    rotate_left
    · show Act.put _ (some 38) _ = _
      simp only [Act.put, List.setIfInBounds_toArray, List.set_cons_zero, List.set_cons_succ, i64_w, i32_w]
      rfl
    have HCA4 : Aside0 (Kd.C k85 w4 A r.a.length r.a) := ⟨C85_stay' HCA3.out (fun hz ad e hlt => HCH4.out.block _ hlt (fun hF => by have h1 := HAB.out.1 hz ad e; have h2 := (HRS3.out.lt _ hF).1; omega))⟩
    have HC24 : Aside0 (Kd.C k85 w4 B2 r.a.length r.a) := ⟨C85_stay HC23.out (fun ad e hlt => HCH4.out.block _ hlt (fun hF => by have h1 := HB2F.out ad e; have h2 := HLT.out.2 _ hF; omega))⟩
    generalize hEE : putE most R r why = E at *
    refine pure_ (i := 9) (N := some 39) (v := ?_) (a' := ?_) #[true, true, true, true, true, true, true, true, true, true, false, false, false, false, false, false, false, false, false] rfl rfl (any_of HT_.out (by kernel_rfl)) (fun _ _ _ h => h) (Or.inl ⟨by rfl, ?_⟩) ?_ ?_
    rotate_left
    · intro w'
      go_simp
      with_reducible rfl
    rotate_left
    · simp only [Act.put, List.setIfInBounds_toArray, List.set_cons_zero, List.set_cons_succ, i64_w, i32_w]
      rfl
    refine pure_ (i := 10) (N := some 40) (v := ?_) (a' := ?_) #[true, true, true, true, true, true, true, true, true, true, true, false, false, false, false, false, false, false, false] rfl rfl (any_of HT_.out (by kernel_rfl)) (fun _ _ _ h => h) (Or.inl ⟨by rfl, ?_⟩) ?_ ?_
    rotate_left
    · intro w'
      go_simp
      with_reducible rfl
    rotate_left
    · simp only [Act.put, List.setIfInBounds_toArray, List.set_cons_zero, List.set_cons_succ, i64_w, i32_w]
      rfl
    refine pure_ (i := 11) (N := some 41) (v := ?_) (a' := ?_) #[true, true, true, true, true, true, true, true, true, true, true, true, false, false, false, false, false, false, false] rfl rfl (any_of HT_.out (by kernel_rfl)) (fun _ _ _ h => h) (Or.inl ⟨by rfl, ?_⟩) ?_ ?_
    rotate_left
    · intro w'
      go_simp
      with_reducible rfl
    rotate_left
    · simp only [Act.put, List.setIfInBounds_toArray, List.set_cons_zero, List.set_cons_succ, i64_w, i32_w]
      rfl
    refine pure_ (i := 12) (N := some 42) (v := ?_) (a' := ?_) #[true, true, true, true, true, true, true, true, true, true, true, true, true, false, false, false, false, false, false] rfl rfl (any_of HT_.out (by kernel_rfl)) (fun _ _ _ h => h) (Or.inl ⟨by rfl, ?_⟩) ?_ ?_
    rotate_left
    · intro w'
      go_simp
      with_reducible rfl
    rotate_left
    · simp only [Act.put, List.setIfInBounds_toArray, List.set_cons_zero, List.set_cons_succ, i64_w, i32_w]
      rfl
    refine take_ (i := 13) (N := some 43) (v := ?_) (a' := ?_) #[true, true, true, true, true, true, true, true, true, true, true, true, true, true, false, false, false, false, false] rfl rfl (take_ofW HT_.out HW_.out (by kernel_rfl)) (fun _ _ _ h => h) (Or.inl ⟨by rfl, ?_⟩) hHeld ?_ ?_
    rotate_left
    · rintro w' ⟨yg, yo⟩
      refine exec_mid36 (x := .tmp 42) ?_ ?_ (i := 0) (fun q u hu => (blk_cell yg _).trans (HCUR.out q u hu)) hes40
      · rfl
      · rfl
    rotate_left
    · simp only [Act.put, List.setIfInBounds_toArray, List.set_cons_zero, List.set_cons_succ, i64_w, i32_w]
      rfl
    refine pure_ (i := 14) (N := some 44) (v := ?_) (a' := ?_) #[true, true, true, true, true, true, true, true, true, true, true, true, true, true, true, false, false, false, false] rfl rfl (any_of HT_.out (by kernel_rfl)) (fun _ _ _ h => h) (Or.inl ⟨by rfl, ?_⟩) ?_ ?_
    rotate_left
    · intro w'
      go_simp
      with_reducible rfl
    rotate_left
    · simp only [Act.put, List.setIfInBounds_toArray, List.set_cons_zero, List.set_cons_succ, i64_w, i32_w]
      rfl
    refine take_ (i := 15) (N := some 45) (v := ?_) (a' := ?_) #[true, true, true, true, true, true, true, true, true, true, true, true, true, true, true, true, false, false, false] rfl rfl (take_ofW HT_.out HW_.out (by kernel_rfl)) (fun _ _ _ h => h) (Or.inl ⟨by rfl, ?_⟩) hHeld ?_ ?_
    rotate_left
    · rintro w' ⟨yg, yo⟩
      refine exec_mid36 (x := .tmp 44) ?_ ?_ (i := 1) (fun q u hu => (blk_cell yo _).trans (HOM.out q u hu)) hs
      · rfl
      · rfl
    rotate_left
    · simp only [Act.put, List.setIfInBounds_toArray, List.set_cons_zero, List.set_cons_succ, i64_w, i32_w]
      rfl
    refine one_ (i := 16) (N := some 46) #[true, true, true, true, true, true, true, true, true, true, true, true, true, true, true, true, true, false, false] rfl rfl (one_of HT_.out (by kernel_rfl)) (by decide) (fun K hK => ?_)
    refine goes_ Tryz.func12 (by kernel_rfl) rfl #[.agg es, .agg cs] (by rfl) rfl rfl (by (try simp only [List.map_toArray, List.map_cons, List.map_nil]); first | done | rfl) ?_
    refine (HES.out ▸ HCS.out ▸ one_walk kn r.x HX.out B2 A cb2 c0 r.a w4 HC24.out HC2.out.1 HCA4.out HC.out HSF.out).mono ?_
    rintro e w5 ⟨rfl, hd5⟩
    have HB5 := Aside0.mk hd5
    refine ⟨_, rfl, ?_⟩
    refine hK.out _ _ ⟨blk_below hHeld.1 hd5, blk_below hHeld.2 hd5⟩ (fun hHeld => ?_)
    clear hK K hd5
    refine norm_ (a' := ?_) ?_ ?_
    rotate_left
    · show Act.put _ (some 46) _ = _
      simp only [Act.put, List.setIfInBounds_toArray, List.set_cons_zero, List.set_cons_succ, i64_w, i32_w]
      rfl
    refine pure_ (i := 17) (N := some 47) (v := ?_) (a' := ?_) #[true, true, true, true, true, true, true, true, true, true, true, true, true, true, true, true, true, true, false] rfl rfl (any_of HT_.out (by kernel_rfl)) (fun _ _ _ h => h) (Or.inl ⟨by rfl, ?_⟩) ?_ ?_
    rotate_left
    · intro w'
      go_simp
      with_reducible rfl
    rotate_left
    · simp only [Act.put, List.setIfInBounds_toArray, List.set_cons_zero, List.set_cons_succ, i64_w, i32_w]
      rfl
    refine pure_ (i := 18) (N := some 8) (v := ?_) (a' := ?_) #[true, true, true, true, true, true, true, true, true, true, true, true, true, true, true, true, true, true, true] rfl rfl (any_of HT_.out (by kernel_rfl)) (fun _ _ _ h => h) (Or.inl ⟨by rfl, ?_⟩) ?_ ?_
    rotate_left
    · intro w'
      go_simp
      with_reducible rfl
    rotate_left
    · simp only [Act.put, List.setIfInBounds_toArray, List.set_cons_zero, List.set_cons_succ, i64_w, i32_w]
      rfl
    refine done_ (done_of HT_.out (by kernel_rfl)) ?_
    have hsz0 := HB02.out.size
    have hszD := HBD.out.size
    have hsz3 := HCH3.out.size
    have hsz4 := HCH4.out.size
    have hR5 := Kd.R_below (Kd.R_step (Kd.R_step (Kd.R_below HR2.out HBD.out) (fun k hk hkl => HCH3.out.block k hkl (fun e => by have h1 := HLT.out.1 _ e; have h2 := hk.2.1; have h3 := HW1S.out; rw [World.size_alloc] at h2; omega))) (fun k hk hkl => HCH4.out.block k hkl (fun e => by have h1 := HLT.out.2 _ e; have h2 := hk.2.1; have h3 := HW1S.out; rw [World.size_alloc] at h2; omega))) HB5.out
    have hcl : ∀ q, (True ∧ (W1.alloc (.cells cs 36)).heap.size ≤ q ∧ q < w2.heap.size ∧ ∃ t, t ∈ 36 :: kRc.E ∧ ∃ cells, w2.heap[q]? = some (.cells cells t (0, 0))) → w.heap.size ≤ q ∧ q < w2.heap.size := fun q hq => by
      have h1 := hq.2.1
      have h2 := HW1S.out
      rw [World.size_alloc] at h1
      exact ⟨by omega, hq.2.2.1⟩
    have two5 := (HTD.out.next HST3.out HCH3.out HRS4.out HCH4.out).below HB5.out
    have HR5 := Aside0.mk hR5
    have HCL := Aside0.mk hcl
    have HT5 := Aside0.mk two5
    have HSZ := Aside0.mk (And.intro hsz0 (And.intro hszD (And.intro hsz3 hsz4)))
    clear hR5 hcl two5 hsz0 hszD hsz3 hsz4 hHeld
    go_wp2_with (go_at_call 28; refine (spoil_walk _ _ _ [r] w5 HR5.out).mono ?_; rintro e w6 ⟨rfl, hch6⟩; have HCH6 := Aside0.mk hch6; clear hch6)
    go_ret
    obtain ⟨s0, sD, s3, s4⟩ := HSZ.out
    have s5 := HB5.out.size
    have far : ∀ k, k < w.heap.size ∨ w2.heap.size ≤ k → k < w5.heap.size → w6.heap[k]? = w5.heap[k]? := fun k hk hkl => HCH6.out.block k hkl (fun e => by have := HCL.out k e; omega)
    have hnr : nextR most R kind r t why = if E = 0 then R ++ [r] else R := by unfold nextR; rw [if_neg hkd, hEE]
    refine ⟨rfl, (if E = 0 then ver + 1 else ver), by split <;> omega, by split <;> omega, ?_, ?_⟩
    · rw [hnr]
      refine ⟨_, _, HT5.out.st.step (fun k hk => far k ?_ (HT5.out.st.lt k hk).2) HCH6.out.size, HT5.out.rs.step (fun k hk => far k ?_ (HT5.out.rs.lt k hk).2) HCH6.out.size, HT5.out.ap⟩
      · exact hk.1.imp (fun e => HLT.out.1 k e) (fun e => by omega)
      · rcases hk with hk | hk
        · exact hk.1.imp (fun e => HLT.out.2 k (.inl e)) (fun e => by omega)
        · exact .inl (HLT.out.2 k (.inr hk))
    · have hab := HAB.out.2
      have b1 := HCH3.out.below (B := base) (fun q hq => (HTD.out.st.lt q hq).1) (by omega)
      have b2 := HCH4.out.below (B := base) (fun q hq => (HRS3.out.lt q hq).1) (by omega)
      have b3 := HCH6.out.below (B := base) (fun q hq => by have := HCL.out q hq; omega) (by omega)
      exact ((((HB02.out.mono hab).trans (HBD.out.mono (by omega))).trans b1).trans b2).trans ((HB5.out.mono (by omega)).trans b3)
end Go.Proofs.YtefeibndnghejaaGreatDoor.Pr
end
section
set_option linter.unusedVariables false
set_option linter.unusedSimpArgs false
namespace Go.Proofs.YtefeibndnghejaaGreatDoor.Pr
open Go.RowKit Go.Proofs.YtefeibndnghejaaGreatDoorW.PrintWords Go.Proofs.YtefeibndnghejaaGreatDoorW.PrintLast Go.Proofs.YtefeibndnghejaaGreatDoorW.PrintMore
theorem st_new (most : Int) (w : World) (base : Nat) (hb : base ≤ w.heap.size) : St (w.alloc (.cells (stC most (.slice none 0 0) (.map none) (.map none) 0) 81)) base (fun q => q = w.heap.size) w.heap.size most 0 [] :=
 ⟨.slice none 0 0, .map none, .map none, fun _ => False, fun _ => False, fun _ => False, fun _ => False,
  ⟨blk_new w _, MRow.nil _ _ _ _ _ _ _ _ _ (fun _ _ => rfl), MRow.nil _ _ _ _ _ _ _ _ _ (fun _ _ => rfl), fun _ h => h.elim, fun _ h => h.elim, fun _ h => h.elim, id⟩,
  Kd.R_nil _ _ _ _ _, fun _ h => h.elim, fun _ h => h.elim, rfl, fun q hq => by subst hq; exact ⟨hb, by simp⟩, fun _ h => h.elim, id, fun r h => by cases h⟩
def zU (n : Nat) : List Int := List.replicate n 0
def rK (t : Int) : Rd := ⟨⟨1, ⟨#[117, 112]⟩, t, 0, 0, 0, ⟨#[]⟩, zU 16, zU 8, zU 8⟩, []⟩
theorem rK_ok (t : Int) : (rK t).x.ok := ⟨rfl, rfl, rfl, by simp [rK, zU], by simp [rK, zU]⟩
theorem rK_fine (t : Int) : (rK t).fine := ⟨rK_ok t, by show (2 : Nat) < _; decide, by
 show attr_Text.f [] = _
 unfold attr_Text.f
 rw [if_pos (by decide)]
 rfl, Nat.zero_le _⟩
theorem rK_key (t u : Int) : skeyB (rK t) = skeyB (rK u) := rfl
theorem rK_right : attr_Right.f 20 [] = some 0 := by decide +kernel
theorem putK0 : putE 10 [] (rK 5) 0 = 0 := by
 unfold putE
 rw [if_neg (by decide), if_neg (by decide), if_neg, if_neg, if_neg (by decide)]
 ·
  rintro ⟨h, _⟩; cases h
 ·
  rintro ⟨_, h, _⟩; exact h rfl
theorem timesK1 (u : Int) : timesOf [rK 5] (skeyB (rK u)).data.toList = [5] := by
 unfold timesOf
 rw [List.filter_cons, if_pos (decide_eq_true ⟨rfl, by rw [rK_key 5 u]⟩)]
 rfl
theorem timesK2 (u : Int) : timesOf [rK 5, rK 7] (skeyB (rK u)).data.toList = [5, 7] := by
 unfold timesOf
 rw [List.filter_cons, if_pos (decide_eq_true ⟨rfl, by rw [rK_key 5 u]⟩), List.filter_cons, if_pos (decide_eq_true ⟨rfl, by rw [rK_key 7 u]⟩)]
 rfl
theorem putK1 : putE 10 [rK 5] (rK 7) 0 = 0 := by
 unfold putE
 rw [if_neg (by decide), if_neg (by decide), if_neg, if_neg, if_neg (by decide)]
 ·
  rintro ⟨h, _⟩; cases h
 ·
  rintro ⟨_, _, h⟩; rw [timesK1] at h; revert h; decide
theorem putK2 : putE 10 [rK 5, rK 7] (rK 5) 0 = 9 := by
 unfold putE
 rw [if_neg (by decide), if_neg (by decide), if_pos]
 refine ⟨rfl, ?_, ?_⟩
 ·
  rw [timesK2]; simp
 ·
  rw [timesK2]; decide
theorem selK : ([rK 5, rK 7] : List Rd).filter (selP 1 ⟨#[117, 112]⟩ 6 9 (fun _ => true)) = [rK 7] := by
 have h5 : selP 1 ⟨#[117, 112]⟩ 6 9 (fun _ => true) (rK 5) = false := by decide +kernel
 have h7 : selP 1 ⟨#[117, 112]⟩ 6 9 (fun _ => true) (rK 7) = true := by decide +kernel
 rw [List.filter_cons, h5, List.filter_cons, h7]
 rfl
theorem keptK : keptR 6 [rK 5, rK 7] = [rK 7] := by
 unfold keptR
 rw [List.filter_cons, if_neg (by decide), List.filter_cons, if_pos (by decide)]
 rfl
theorem rK_cells (t : Int) : (rK t).x.cells (.slice none 0 0) = #[.int .i64 1, .string ⟨#[117, 112]⟩, .slice none 0 0, .int .i64 t, .int .i64 0, .int .i64 0, .int .i64 0, .string ⟨#[]⟩, .int .u8 0, .int .u8 0, .int .u8 0, .int .u8 0, .int .u8 0, .int .u8 0, .int .u8 0, .int .u8 0, .int .u8 0, .int .u8 0, .int .u8 0, .int .u8 0, .int .u8 0, .int .u8 0, .int .u8 0, .int .u8 0, .int .u8 0, .int .u8 0, .int .u8 0, .int .u8 0, .int .u8 0, .int .u8 0, .int .u8 0, .int .u8 0, .int .u8 0, .int .u8 0, .int .u8 0, .int .u8 0, .int .u8 0, .int .u8 0, .int .u8 0, .int .u8 0] := rfl
theorem C85_nil (w : World) : Kd.C k85 w none 0 [] := ⟨rfl, Nat.zero_le _, fun h => by cases h⟩
structure KN (w : World) (B a b : Nat) (ca cb : Array Value) (ver : Int) (R : List Rd) (W : World) : Prop where
  st : ∃ F, St W w.heap.size F w.heap.size 10 ver R ∧ ∀ q, F q → q = w.heap.size ∨ B ≤ q
  ha : W.heap[a]? = some (.cells ca 36 (0, 0))
  hb : W.heap[b]? = some (.cells cb 36 (0, 0))
  bel : Below w.heap.size w W
  la : a < B
  lb : b < B
  na : w.heap.size < a
  nb : w.heap.size < b
  lB : B ≤ W.heap.size
theorem KN.put {w : World} {B a b : Nat} {ca cb : Array Value} {ver : Int} {R : List Rd} {W : World} (h : KN w B a b ca cb ver R W) (he : EnvW w) (t : Int) (hR : R.length < 1048576) (hv : -4611686018427387904 < ver ∧ ver < 4611686018427387904) :
  Calls Tryz.prog 32 #[.pointer (some ⟨w.heap.size, 0, none⟩), .agg ((rK t).x.cells (.slice none 0 0))] W fun e w' => e = .returned (.int .i64 (putE 10 R (rK t) 0)) ∧ KN w B a b ca cb (if putE 10 R (rK t) 0 = 0 then ver + 1 else ver) (if putE 10 R (rK t) 0 = 0 then R ++ [rK t] else R) w' := by
 obtain ⟨F, hS, hF⟩ := h.st
 refine (put_walk 20 w.heap.size 10 ver R F (rK t) none 0 W w.heap.size hS (rK_ok t) (C85_nil _) (Nat.le_refl _) 0 rK_right (fun _ => ⟨rK_fine t, by show (0 : Nat) < _; decide⟩) (fun ad e => by cases e) hR hv h.bel.size (env_below he h.bel)).mono ?_
 rintro e w1 ⟨rfl, hc, hs⟩
 have hs' := hc.size
 refine ⟨rfl, ⟨_, hs, fun q hq => hq.1.elim (hF q) (fun e => .inr (Nat.le_trans h.lB e))⟩, (hc.block a (blk_lt h.ha) (fun e => (hF a e).elim (fun e => by have := h.na; omega) (fun e => by have := h.la; omega))).trans h.ha, (hc.block b (blk_lt h.hb) (fun e => (hF b e).elim (fun e => by have := h.nb; omega) (fun e => by have := h.lb; omega))).trans h.hb, h.bel.trans (hc.below (fun q hq => (hS.lt q hq).1) h.bel.size), h.la, h.lb, h.na, h.nb, Nat.le_trans h.lB hs'⟩
set_option maxRecDepth 100000 in
set_option maxHeartbeats 8000000 in
theorem known_walk (w : World) (he : EnvW w) : Calls Tryz.prog 10 #[] w fun e w' => e = .returned (.bool true) ∧ Below w.heap.size w w' := by
 have hu36 := Tryz.underlying36
 have HEN := Aside0.mk he
 obtain ⟨W0, hW0⟩ : ∃ W0, W0 = w.alloc (.cells (stC 10 (.slice none 0 0) (.map none) (.map none) 0) 81) := ⟨_, rfl⟩
 have hb0 : Below w.heap.size w W0 := hW0 ▸ below_alloc (Below.refl _ _) _
 have hs0 : St W0 w.heap.size (fun q => q = w.heap.size) w.heap.size 10 0 [] := hW0 ▸ st_new 10 w w.heap.size (Nat.le_refl _)
 obtain ⟨ca, hca⟩ : ∃ ca, ca = (rK 5).x.cells (.slice none 0 0) := ⟨_, rfl⟩
 obtain ⟨cb, hcb⟩ : ∃ cb, cb = (rK 7).x.cells (.slice none 0 0) := ⟨_, rfl⟩
 have hsa : ca.size = 40 := by rw [hca]; rfl
 have hsb : cb.size = 40 := by rw [hcb]; rfl
 have h1a : ca.all (·.oneCell') = true := by rw [hca]; exact Rc.ones _ rfl
 have h1b : cb.all (·.oneCell') = true := by rw [hcb]; exact Rc.ones _ rfl
 have HCA := Aside0.mk hca
 have HCB := Aside0.mk hcb
 have H1 := Aside0.mk (And.intro h1a h1b)
 have HB0 := Aside0.mk hb0
 have HS0 := Aside0.mk hs0
 have HW0 := Aside0.mk hW0
 rw [rK_cells] at hca hcb
 clear h1a h1b hb0 hs0 he hW0
 go_enter Tryz.func10, Tryz.ntmps10
 go_upto_region 4 with (go_at_call 34; refine (new_some 10 w (by decide) (by decide)).mono ?_; rintro e w' ⟨rfl, rfl⟩)
 rw [← HW0.out]
 go_wp2_with (refine wpList_buildTo rfl 36 _ rfl (some 11) rfl ca (by rw [hca]; kernel_rfl) (Aside0.out ?_))
 refine ⟨?_⟩
 clear hca
 go_wp2_with (refine wpList_store_rowTo rfl 36 (.tmp 2) (.tmp 11) rfl rfl W0.heap.size ca rfl rfl 36 z36 (blk_new W0 (.cells z36 36)) (by rw [hsa]; kernel_rfl) (by rw [hsa]; rfl) H1.out.1 (Aside0.out ?_))
 refine ⟨?_⟩
 have hWa : ∃ Wa, Wa = (W0.alloc (.cells z36 36)).setRow W0.heap.size ca := ⟨_, rfl⟩
 obtain ⟨Wa, hWa⟩ := hWa
 have hba := hWa ▸ recBox W0 ca
 have HBA := Aside0.mk hba
 have hsza : Wa.heap.size = W0.heap.size + 1 := by rw [hWa]; simp [World.setRow]
 have hsz0 : W0.heap.size = w.heap.size + 1 := by rw [HW0.out]; simp
 have HSZ := Aside0.mk (And.intro hsza hsz0)
 unfold z36 at hWa
 rw [← hWa]
 clear hWa hba hsza hsz0
 refine wpList_nil ?_
 go_wp2_with (refine wpList_buildTo rfl 36 _ rfl (some 12) rfl cb (by rw [hcb]; kernel_rfl) (Aside0.out ?_))
 refine ⟨?_⟩
 clear hcb
 go_wp2_with (refine wpList_store_rowTo rfl 36 (.tmp 3) (.tmp 12) rfl rfl Wa.heap.size cb rfl rfl 36 z36 (blk_new Wa (.cells z36 36)) (by rw [hsb]; kernel_rfl) (by rw [hsb]; rfl) H1.out.2 (Aside0.out ?_))
 refine ⟨?_⟩
 have hWb : ∃ Wb, Wb = (Wa.alloc (.cells z36 36)).setRow Wa.heap.size cb := ⟨_, rfl⟩
 obtain ⟨Wb, hWb⟩ := hWb
 have hbb := hWb ▸ recBox Wa cb
 have HBB := Aside0.mk hbb
 unfold z36 at hWb
 rw [← hWb]
 clear hWb hbb
 refine wpList_nil ?_
 have hK : KN w Wb.heap.size W0.heap.size Wa.heap.size ca cb 0 [] Wb := by
  have h1 := HSZ.out.1
  have h2 := HSZ.out.2
  have h3 := HBB.out.2.size
  have h4 := blk_lt HBB.out.1
  exact ⟨⟨_, HS0.out.below (HBA.out.2.trans (HBB.out.2.mono HBA.out.2.size)), fun q hq => .inl hq⟩, blk_below HBA.out.1 HBB.out.2, HBB.out.1, HB0.out.trans ((HBA.out.2.trans (HBB.out.2.mono HBA.out.2.size)).mono HB0.out.size), by omega, by omega, by omega, by omega, Nat.le_refl _⟩
 have HK := Aside0.mk hK
 clear hK
 go_wp2_with (refine wpList_load_row rfl 36 (.tmp 2) rfl W0.heap.size rfl 36 ca (0, 0) _ HK.out.ha hu36 rfl (by rw [hsa]; kernel_rfl) (Aside0.out ?_))
 refine ⟨?_⟩
 go_wp2_with fail
 have HP1 := Aside0.mk (HK.out.put HEN.out 5 (by decide) ⟨by decide, by decide⟩)
 rw [← HCA.out, putK0] at HP1
 refine HP1.out.mono ?_
 rintro e w1 ⟨rfl, hk1⟩
 have HK1 := Aside0.mk (show KN w Wb.heap.size W0.heap.size Wa.heap.size ca cb 1 [rK 5] w1 from hk1)
 clear HP1 hk1
 go_wp2_with (refine wpList_load_row rfl 36 (.tmp 3) rfl Wa.heap.size rfl 36 cb (0, 0) _ HK1.out.hb hu36 rfl (by rw [hsb]; kernel_rfl) (Aside0.out ?_))
 refine ⟨?_⟩
 go_wp2_with fail
 have HP1 := Aside0.mk (HK1.out.put HEN.out 7 (by decide) ⟨by decide, by decide⟩)
 rw [← HCB.out, putK1] at HP1
 refine HP1.out.mono ?_
 rintro e w2 ⟨rfl, hk1⟩
 have HK2 := Aside0.mk (show KN w Wb.heap.size W0.heap.size Wa.heap.size ca cb 2 [rK 5, rK 7] w2 from hk1)
 clear HP1 hk1
 go_wp2_with (refine wpList_load_row rfl 36 (.tmp 2) rfl W0.heap.size rfl 36 ca (0, 0) _ HK2.out.ha hu36 rfl (by rw [hsa]; kernel_rfl) (Aside0.out ?_))
 refine ⟨?_⟩
 go_wp2_with fail
 have HP1 := Aside0.mk (HK2.out.put HEN.out 5 (by decide) ⟨by decide, by decide⟩)
 rw [← HCA.out, putK2] at HP1
 refine HP1.out.mono ?_
 rintro e w3 ⟨rfl, hk1⟩
 have HK3 := Aside0.mk (show KN w Wb.heap.size W0.heap.size Wa.heap.size ca cb 2 [rK 5, rK 7] w3 from hk1)
 clear HP1 hk1
 go_wp2_with fail
 obtain ⟨F3, hS3, hF3⟩ := HK3.out.st
 refine (select_walk 1 ⟨#[117, 112]⟩ none 0 0 6 9 (fun _ => true) id w.heap.size 10 2 [rK 5, rK 7] w.heap.size F3 w3 hS3 (by decide) (fun r hr A c W hb hC hc => (fits_nil A r.a.length c W).mono fun e w' ⟨h1, h2⟩ => ⟨h1, h2 ▸ Below.refl _ _⟩) (fun v W base' ok' hle hr => ?_)).mono ?_
 ·
  rw [selK] at hr ⊢
  obtain ⟨A, c, rfl⟩ := Kd.R_slice hr
  refine (sort1_walk A 1 c W (Nat.le_refl _)).mono ?_
  rintro e w' ⟨rfl, rfl⟩
  exact ⟨rfl, hr, Chg.refl _ _⟩
 rintro e w4 ⟨v, rfl, hr4, hb4⟩
 rw [selK] at hr4
 obtain ⟨A4, c4, hv4⟩ := Kd.R_slice hr4
 subst hv4
 obtain ⟨gl, B4, cb4, hA4, -, hrow, -, -⟩ := rec_row hr4 0 (by decide)
 subst hA4
 have y3 : w4.cell? ⟨gl, 3, none⟩ = some (.int .i64 7) := by
  have := hrow 3 (.int .i64 7) rfl
  simpa using this
 have hcut : Calls Tryz.prog 17 #[.pointer (some ⟨w.heap.size, 0, none⟩), .int .i64 6] w4 fun e w' => e = .returned (.int .i64 1) ∧ Below w.heap.size w w' ∧ ∃ F, St w' w.heap.size F w.heap.size 10 3 [rK 7] := by
  refine (cut_walk w.heap.size 10 2 6 [rK 5, rK 7] F3 w4 w.heap.size (hS3.below hb4) (by decide) ⟨by decide, by decide⟩ (by have h1 := HK3.out.bel.size; have h2 := hb4.size; omega)).mono ?_
  rintro e w5 ⟨he, hc, hs⟩
  rw [keptK] at he hs
  refine ⟨he, (HK3.out.bel.trans (hb4.mono HK3.out.bel.size)).trans (hc.below (fun q hq => (hS3.lt q hq).1) (by have h1 := HK3.out.bel.size; have h2 := hb4.size; omega)), _, hs⟩
 have HCUT := Aside0.mk hcut
 clear hcut hrow hr4 hb4 hS3 hF3
 go_wp2_with (first | (go_at_call 17; refine HCUT.out.mono ?_; rintro e w5 ⟨rfl, hb5, F5, hs5⟩; obtain ⟨l5, m51, m52, _, _, _, _, hP5⟩ := hs5; have HB5 := Aside0.mk hb5; have HV5 := Aside0.mk (version_at w.heap.size 10 l5 m51 m52 3 w5 hP5.mp.blk); clear hb5 hP5) | (go_at_call 16; refine HV5.out.mono ?_; rintro e w6 ⟨rfl, rfl⟩))
 go_ret
 exact ⟨rfl, HB5.out⟩
end Go.Proofs.YtefeibndnghejaaGreatDoor.Pr
end
