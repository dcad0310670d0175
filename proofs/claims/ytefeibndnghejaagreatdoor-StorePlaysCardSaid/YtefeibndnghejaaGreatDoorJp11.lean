import Derived.RangeFuncNested
import Derived.RangeFuncBound
import Derived.RangeFuncCalls
import Derived.RangeFuncLeaves
import Derived.RangeFuncBox
import Derived.OrdersIn
import Derived.Deep.MidRow
import Derived.TacticsIn
import Derived.Test.YtefeibndnghejaaGreatDoorJp5
import Derived.Shelf.Abstract
import Derived.WalkKit
import Derived.OwnWalkIn
import Derived.TacticsInMore
import Derived.LoopNIn
import Derived.LoopIn
import Derived.Maps.AppendAt
import Derived.Shelf.RegionOpen
import Derived.Test.YtefeibndnghejaaGreatDoorJp9
import Derived.Test.YtefeibndnghejaaGreatDoorJp10
import Derived.Great.CaseRows
section
set_option linter.unusedVariables false
set_option linter.unusedSimpArgs false
namespace Go.Proofs.YtefeibndnghejaaGreatDoor.Pr
open Go Go.RowKit
def Gives {α : Type} (F : Fence) (n : Nat) (P : Program) (g : Nat) (lb : Array Value) (encs : α → Array Value) (Kp : World → World → Prop) (Pr : α → World → World → Prop) (S Sp : List α → Prop) (N : Nat) (w : World) : Prop :=
  ∀ (l : Nat) (J Jx : List α → World → Prop) (W : World), Below w.heap.size w W →
    (∀ pre x W0 W1, J pre W0 → Below W0.heap.size W0 W1 → Pr x W0 W1 → pre.length < N → YieldAt F (n - 1) P l (encs x) W1 fun e W' =>
      (e = .returned (.bool true) ∧ J (pre ++ [x]) W' ∧ Kp W1 W') ∨ (e = .returned (.bool false) ∧ Jx (pre ++ [x]) W')) →
    J [] W →
    CallsIn F n P g (#[.func (.yield l) #[] #[]] ++ lb) W fun e W' => (∃ v, e = .returned v) ∧ ((∃ xs, S xs ∧ J xs W') ∨ (∃ pre, Sp pre ∧ Jx pre W'))
variable {F : Fence} {n : Nat} {P : Program}
def RoundGoes {α : Type} (F : Fence) (n : Nat) (P : Program) (B : Nat) (Kp : World → World → Prop) (I : List α → World → Prop) (Ix : Code → List α → World → Prop) (assign body : Code) (tmps : Array Value) (l : Nat) (xs : List α) (W : World) : Prop :=
  assign.wpIn (F.inRound l) n P (Exit.then (fun a1 W1 => KeepsFrom B W W1 ∧ Kp W W1 ∧ ∀ r, body.wpIn (F.inRound l) n P (ownPostG B Kp I Ix xs (W1.putObj l (.loop r))) a1 (W1.putObj l (.loop r))) (fun _ _ _ => False)) { tmps := tmps, defers := [] } W
theorem range_gives {α : Type} {g : Operand} {ps : Array Tmp} {assign body : Code} {Q : Exit → Act → World → Prop} {a : Act} {w : World}
  (hro : F.round = none) (h1 : 1 ≤ n) {gf : Nat} {lb : Array Value} (hg : a.eval g = .func (.func gf) #[] lb) (hFg : F.fn gf) (eg : ∀ args w, (callFunc gf args).run P w = .ok (.enter gf args) w)
  {encs : α → Array Value} {Kp : World → World → Prop} {Pr : α → World → World → Prop} {S Sp : List α → Prop} {N : Nat} {w0 : World} (hseq : Gives F (n - 1) P gf lb encs Kp Pr S Sp N w0)
  (hKt : ∀ {A B C : World}, Kp A B → Kp B C → Kp A C) (hKb : ∀ (W : World) (l : Nat) (o o' : Obj), w.heap.size ≤ l → W.heap[l]? = some o → o.isCells = false → o.isWalk = false → Kp W (W.putObj l o'))
  (hb0 : Below w0.heap.size w0 w) (hps : ∀ x, (encs x).size = ps.size)
  (I : List α → World → Prop) (Ix : Code → List α → World → Prop) (hI : OwnFrom w.heap.size I) (hIx : ∀ c, OwnFrom w.heap.size (Ix c)) (h0 : I [] w)
  (hround : ∀ (l : Nat) (pre : List α) (x : α) (W0 W : World), w.heap.size < l → l < W0.heap.size → (∃ r, W.heap[l]? = some (.loop r)) → I pre W0 → Below W0.heap.size W0 W → Pr x W0 W → pre.length < N → RoundGoes F (n - 1 - 1) P w.heap.size Kp I Ix assign body ((ps.zip (encs x)).foldl (fun t (p, v) => t.setIfInBounds p v) a.tmps) l (pre ++ [x]) W)
  (hdone : ∀ (D : Nat) (xs : List α) (W : World), w.heap.size ≤ D → S xs → I xs W → W.heap[D]? = some (.deferred (some [])) → Q .normal { a with defers := { target := .collected D, args := #[] } :: a.defers } W)
  (hstop : ∀ (D : Nat) (c : Code) (pre : List α) (W : World), w.heap.size ≤ D → Sp pre → Ix c pre W → W.heap[D]? = some (.deferred (some [])) → c.wpIn F n P Q { a with defers := { target := .collected D, args := #[] } :: a.defers } W) :
  (Code.rangeFunc g ps assign body).wpIn F n P Q a w := by
 refine wpIn_rangeFunc (fun fn hfn => ?_)
 rw [hro]
 let D := w.heap.size
 let l := w.heap.size + 1
 let rec_ : LoopState → Option Code → Obj := fun st pe => .loop { state := st, pending := pe, fn, tmps := a.tmps, params := ps, assign, body, defers := D }
 let wl := (w.alloc (.deferred (some []))).alloc (rec_ .ready none)
 let Lies : LoopState → Option Code → World → Prop := fun st pe W => W.heap[l]? = some (rec_ st pe) ∧ W.heap[D]? = some (.deferred (some []))
 have hDl : D < l := Nat.lt_succ_self _
 have lies0 : Lies .ready none wl := by
  refine ⟨?_, (Below.heap_alloc _ _ _ (by simp [D])).trans (World.alloc_heap_new w _)⟩
  have h := World.alloc_heap_new (w.alloc (.deferred (some []))) (rec_ .ready none)
  rwa [World.size_alloc] at h
 have liesPut : ∀ {st st' pe pe' W}, Lies st pe W → Lies st' pe' (W.putObj l (rec_ st' pe')) := fun h =>
  ⟨World.putObj_heap_same (Array.getElem?_eq_some_iff.1 h.1).1, (World.putObj_heap_other (by omega)).trans h.2⟩
 have liesKeep : ∀ {st pe W W'}, Lies st pe W → KeepsFrom D W W' → Lies st pe W' := fun h k => ⟨k.same _ _ (Nat.le_of_lt hDl) h.1 rfl, k.same _ _ (Nat.le_refl _) h.2 rfl⟩
 have kpPut : ∀ {st pe W} (o' : Obj), Lies st pe W → Kp W (W.putObj l o') := fun o' h => hKb _ l _ o' (Nat.le_of_lt hDl) h.1 rfl rfl
 have hbl : Below w0.heap.size w0 wl := hb0.trans ((((Below.refl _ w).alloc (Nat.le_refl _) _).alloc (by simp) _).mono hb0.size)
 refine ⟨l, [{ target := .collected D, args := #[] }], wl, { target := .fn (.func gf) lb, args := #[.func (.yield l) #[] #[]] }, wl, gf, #[.func (.yield l) #[] #[]] ++ lb, wl, run_enterLoop_outer _ _ _ _ _, ?_, ?_, ?_, fun _ => h1, ?_⟩
 ·
  simp only [resolve, hg]
  simp [go_sem]
 ·
  intro f' hf'
  simp [Target.leads] at hf'
  subst hf'
  exact hFg
 ·
  simp [invoke, go_sem, eg]
 refine (hseq l (fun pre W => I pre W ∧ Lies .ready none W) (fun pre W => ∃ c, Ix c pre W ∧ Lies .done (some c) W) wl hbl
  ?_ ⟨hI.alloc _ (hI.alloc _ h0), lies0⟩).mono ?_
 ·
  rintro pre x W0 W ⟨hi, hl0⟩ hbW hpr hlen
  have hl : Lies .ready none W := ⟨(hbW.block l (Array.getElem?_eq_some_iff.1 hl0.1).1).trans hl0.1, (hbW.block D (Array.getElem?_eq_some_iff.1 hl0.2).1).trans hl0.2⟩
  refine ⟨fn, _, assign, body, run_yield (P := P) (args := encs x) hl.1 (hps x), roundIn_of_wpIn hfn (wpIn_mono (hround l pre x W0 W hDl (Array.getElem?_eq_some_iff.1 hl0.1).1 ⟨_, hl.1⟩ hi hbW hpr hlen) ?_)⟩
  rintro e a1 W1 hq
  cases e with
  | normal =>
   obtain ⟨hk1, hp1, hbody⟩ := hq
   have hl1 := liesKeep hl hk1
   refine ⟨W1.putObj l (rec_ .busy none), run_beginRound hl1.1 rfl, wpIn_mono (hbody _) ?_⟩
   have hl2 : Lies .busy none (W1.putObj l (rec_ .busy none)) := liesPut hl1
   have fin : ∀ (jump : Option Code) (W3 : World), KeepsFrom D (W1.putObj l (rec_ .busy none)) W3 →
     (Instr.endRound l jump).run P W3 = .ok (.bool jump.isNone) (W3.putObj l (rec_ (if jump.isNone then .ready else .done) jump)) ∧ Lies .busy none W3 := fun jump W3 hk3 =>
    ⟨run_endRound (P := P) jump (liesKeep hl2 hk3).1, liesKeep hl2 hk3⟩
   have out : ∀ (c : Code) (W3 : World), KeepsFrom D (W1.putObj l (rec_ .busy none)) W3 → Ix c (pre ++ [x]) W3 → ∃ v w', (Instr.endRound l (some c)).run P W3 = .ok v w' ∧
     ((Ending.returned v = .returned (.bool true) ∧ (I (pre ++ [x]) w' ∧ Lies .ready none w') ∧ Kp W w') ∨ (Ending.returned v = .returned (.bool false) ∧ ∃ c, Ix c (pre ++ [x]) w' ∧ Lies .done (some c) w')) := fun c W3 hk3 hx => by
    obtain ⟨hr, hl3⟩ := fin (some c) W3 hk3
    exact ⟨_, _, hr, .inr ⟨rfl, c, (hIx c).putObj _ hx (Nat.le_of_lt hDl) hl3.1 rfl, liesPut hl3⟩⟩
   rintro e2 a3 W3 hp
   cases e2 with
   | normal =>
    obtain ⟨hk3, hkp3, hi3⟩ := hp
    obtain ⟨hr, hl3⟩ := fin none W3 hk3
    exact ⟨_, _, hr, .inl ⟨rfl, ⟨hI.putObj _ hi3 (Nat.le_of_lt hDl) hl3.1 rfl, liesPut hl3⟩, hKt hp1 (hKt (kpPut _ hl1) (hKt hkp3 (kpPut _ hl3)))⟩⟩
   | ret => exact out _ _ hp.1 hp.2
   | exit id => exact out _ _ hp.1 hp.2
   | goto t => exact out _ _ hp.1 hp.2
   | panic ch => exact hp.elim
   | outgrown => exact hp.elim
  | exit id => exact hq.elim
  | goto t => exact hq.elim
  | ret => exact hq.elim
  | panic ch => exact hq.elim
  | outgrown => exact hq.elim
 ·
  rintro e W2 ⟨⟨v, rfl⟩, (⟨xs, hS, hi, hl⟩ | ⟨pre, hSp, c, hi, hl⟩)⟩
  ·
   exact ⟨none, _, run_endLoop (P := P) hl.1 (by simp), hdone D xs _ (Nat.le_refl _) hS (hI.putObj _ hi (Nat.le_of_lt hDl) hl.1 rfl) ((World.putObj_heap_other (by omega)).trans hl.2)⟩
  ·
   exact ⟨some c, _, run_endLoop (P := P) hl.1 (by simp), hstop D c pre _ (Nat.le_refl _) hSp ((hIx c).putObj _ hi (Nat.le_of_lt hDl) hl.1 rfl) ((World.putObj_heap_other (by omega)).trans hl.2)⟩
section
abbrev FR (rd : Option Nat) : Fence := { Fence.wide with round := rd }
variable {P : Program} {ops : Array Oper} {Q : Exit → Act → World → Prop} {K : Act → World → Prop} {a : Act} {w : World} {o : Oper}
theorem op_round (rd : Option Nat) (n : Nat) (hd : ∀ c, o.op ≠ Op.defer c) (h : o.wp P a w K Q) : o.wpIn (FR rd) n P a w K Q := by
 refine ⟨fun _ _ => trivial, ?_⟩
 rw [Oper.semAt_eq _ _ _ hd]
 unfold Oper.wp at h
 generalize (execOp a.eval o).run P w = r at h ⊢
 cases r with
 | ok x w' =>
  cases x with
  | value v => exact h
  | skip => exact h
  | defer d => exact h
  | enter f args => exact ⟨fun e => absurd (show (Fence.wide).depth.isSome = true from e) (by decide), (callsIn_wide (n := n - 1)).2 h⟩
  | row r args =>
   refine ⟨fun e => absurd (show (Fence.wide).depth.isSome = true from e) (by decide), fun c cs _ => ?_⟩
   obtain ⟨v, w2, hr, hs⟩ := h c cs
   exact ⟨v, w2, hr, stepsIn_wide.2 hs⟩
  | round _ _ _ _ _ => exact h.elim
  | _ => exact h.elim
 | halt x w' => cases x <;> exact h
def noDef (ops : Array Oper) : Bool := ops.all fun o => match o.op with | .defer _ => false | _ => true
theorem noDef_spec (h : noDef ops = true) : ∀ o ∈ ops.toList, ∀ c, o.op ≠ Op.defer c := by
 intro o ho c e
 obtain ⟨i, hlt, he⟩ := List.getElem_of_mem ho
 have := Array.all_eq_true.1 h i (by simpa using hlt)
 rw [Array.getElem_toList] at he
 rw [he, e] at this
 cases this
theorem list_round (rd : Option Nat) (n : Nat) (hq : ∀ a w, ¬ Q .outgrown a w) : ∀ (rest : List Oper) (a : Act) (w : World), (∀ o ∈ rest, ∀ c, o.op ≠ Op.defer c) → wpList P ops Q rest a w → wpListIn (FR rd) n P ops Q rest a w
 | [], a, w, _, h => h
 | o :: rest, a, w, hd, h => by
  have hd' : ∀ o ∈ rest, ∀ c, o.op ≠ Op.defer c := fun x hx => hd x (List.mem_cons_of_mem _ hx)
  unfold wpListIn
  unfold wpList at h
  split
  ·
   rename_i hw
   rw [if_pos hw] at h
   rcases h with h | ⟨_, b, w', h⟩
   ·
    exact Oper.wpIn_mono (fun a w => list_round rd n hq rest a w hd') (op_round rd n (hd o List.mem_cons_self) h)
   ·
    exact (hq _ _ h).elim
  ·
   rename_i hw
   rw [if_neg hw] at h
   exact ⟨fun _ _ => trivial, list_round rd n hq rest _ _ hd' h⟩
theorem region_round {id : Nat} {ls : List Oper} (rd : Option Nat) (n : Nat) (hq : ∀ a w, ¬ Q .outgrown a w) (hd : noDef ls.toArray = true) (h : wpList P ls.toArray Q ls a w) : (Code.region id ls.toArray false).wpIn (FR rd) n P Q a w :=
 wpIn_region_lit (list_round rd n hq ls a w (by simpa using noDef_spec hd) h)
theorem any_round {md : Region.Mode} (rd : Option Nat) (n : Nat) (hq : ∀ a w, ¬ Q .outgrown a w) (hd : noDef ops = true) : ∀ (fuel : Nat) (listed : Array Bool) (a : Act) (w : World), wpAny P md ops Q fuel listed a w → wpAnyIn (FR rd) n P md ops Q fuel listed a w
 | 0, listed, a, w, h => h
 | fuel + 1, listed, a, w, h => by
  refine ⟨h.1, fun i hi => ?_⟩
  have hi' := h.2 i hi
  unfold wpOpIn
  unfold wpOp at hi'
  cases ho : ops[i]? with
  | none =>
   rw [ho] at hi'
   exact any_round rd n hq hd fuel _ _ _ hi'
  | some o =>
   rw [ho] at hi'
   dsimp only at hi' ⊢
   split
   ·
    rename_i hw
    rw [if_pos hw] at hi'
    rcases hi' with h1 | ⟨_, b, w', h1⟩
    ·
     exact Oper.wpIn_mono (fun a w => any_round rd n hq hd fuel _ a w) (op_round rd n (noDef_spec hd o (by obtain ⟨hl, he⟩ := Array.getElem?_eq_some_iff.1 ho; rw [← he]; simp)) h1)
    ·
     exact (hq _ _ h1).elim
   ·
    rename_i hw
    rw [if_neg hw] at hi'
    exact ⟨fun _ _ => trivial, any_round rd n hq hd fuel _ _ _ hi'⟩
theorem listIn_op {rest : List Oper} (rd : Option Nat) (n : Nat) (hg : o.guard = none) (hd : ∀ c, o.op ≠ Op.defer c) (h : ∀ K : Act → World → Prop, (∀ a w, wpListIn (FR rd) n P ops Q rest a w → K a w) → o.wp P a w K Q) : wpListIn (FR rd) n P ops Q (o :: rest) a w :=
 wpListIn_plain hg (fun K hK => op_round rd n hd (h K hK))
theorem listIn_load_row {rest : List Oper} (rd : Option Nat) (n : Nat) (hg : o.guard = none) (ty : TypeId) (x : Operand) (ho : o.op = .load ty x) (b : Nat) (hx : a.eval x = .pointer (some ⟨b, 0, none⟩)) (t : TypeId) (cs : Array Value) (fr : Nat × Nat) (d : TypeDesc) (hc : w.heap[b]? = some (.cells cs t fr))
  (hu : P.underlying ty = some d) (hr : (match d with | .struct _ | .array _ _ => true | _ => false) = true) (hi : (P.info? ty).map (·.size) = some cs.size) (h : wpListIn (FR rd) n P ops Q rest (a.put o.dst (.agg cs)) w) : wpListIn (FR rd) n P ops Q (o :: rest) a w :=
 listIn_op rd n hg (fun c e => by rw [ho] at e; cases e) (fun K hK => wp_load_row ty x ho b hx t cs fr d hc hu hr hi (hK _ _ h))
theorem listIn_load_mid {rest : List Oper} (rd : Option Nat) (n : Nat) (hg : o.guard = none) (ty : TypeId) (x : Operand) (ho : o.op = .load ty x) (b i : Nat) (hx : a.eval x = .pointer (some ⟨b, i, none⟩)) (cs : List Value) (d : TypeDesc) (hc : w.rangeAt b i cs)
  (hu : P.underlying ty = some d) (hr : d.isRow = true) (hi : (P.info? ty).map (·.size) = some cs.length) (h : wpListIn (FR rd) n P ops Q rest (a.put o.dst (.agg cs.toArray)) w) : wpListIn (FR rd) n P ops Q (o :: rest) a w :=
 listIn_op rd n hg (fun c e => by rw [ho] at e; cases e) (fun K hK => wp_load_mid ty x ho b i hx cs d hc hu hr hi (hK _ _ h))
open Go.Proofs.YtefeibndnghejaaGreatDoorW.PrintWords Go.Proofs.YtefeibndnghejaaGreatDoorW.PrintLast Go.Proofs.YtefeibndnghejaaGreatDoorW.PrintMore in
theorem startR_ {id n m : Nat} {S : World → Prop} {ds : List Nat} (rd : Option Nat) (hq : ∀ a w, ¬ Q .outgrown a w) (hd : noDef ops = true) (l : Array Bool) (hm : P.follows .mixedOrders = true) (hn : ops.size = n) (hl : Array.replicate n false = l) (hS : S w.drew)
  (h : S w.drew → wpAnyLast P .any ops Q S ds n l a w.drew) : (Code.region id ops true).wpIn (FR rd) m P Q a w := by
 subst hn
 subst hl
 exact wpIn_region_any hm (any_round rd m hq hd _ _ _ _ (wpAny_of_last _ _ _ _ (h hS)))
end
end Go.Proofs.YtefeibndnghejaaGreatDoor.Pr
end
section
set_option linter.unusedVariables false
set_option linter.unusedSimpArgs false
namespace Go.Proofs.YtefeibndnghejaaGreatDoor.Pr
open Go.RowKit Go.Shelf Go.Proofs.YtefeibndnghejaaGreatDoorW.PrintWords Go.Proofs.YtefeibndnghejaaGreatDoorW.PrintLast Go.Proofs.YtefeibndnghejaaGreatDoorW.PrintMore
attribute [local go_sem] Oper.semAt_some
theorem all_in (F : Fence) (n : Nat) (hF : F.fn 31) (hro : F.round = none) (p : Option Addr) (w : World) :
  CallsIn F n Tryz.prog 31 #[.pointer p] w fun e w' => e = .returned (.func (.func 60) #[] #[.pointer (some ⟨w.heap.size, 0, none⟩)]) ∧ w' = w.alloc (.cells #[.pointer p] 23) := by
 refine callsIn_of_wp Tryz.func31 rfl hF ?_ hro
 simp only [Tryz.ntmps31, List.size_toArray, List.length_cons, List.length_nil, Nat.reduceAdd, Nat.reduceSub, Array.replicate_succ, Array.replicate_zero, List.push_toArray, List.append_toArray, List.nil_append, List.cons_append]
 gi_wp2
 go_ret
 exact ⟨rfl, rfl⟩
end Go.Proofs.YtefeibndnghejaaGreatDoor.Pr
end
section
set_option linter.unusedVariables false
set_option linter.unusedSimpArgs false
namespace Go.Proofs.YtefeibndnghejaaGreatDoor.Pr
open Go.RowKit Go.Shelf Go.Proofs.YtefeibndnghejaaGreatDoorW.PrintWords Go.Proofs.YtefeibndnghejaaGreatDoorW.PrintLast Go.Proofs.YtefeibndnghejaaGreatDoorW.PrintMore
attribute [local go_sem] Oper.semAt_some
structure Rg where
  r : Rd
  A : Option Addr
  c : Nat
def Rg.val (x : Rg) : Array Value := x.r.x.cells (.slice x.A x.r.a.length x.c)
def Rg.args (x : Rg) : Array Value := #[.agg x.val]
def RgPr (R : List Rd) (x : Rg) (W0 W : World) : Prop := x.r ∈ R ∧ x.r.x.ok ∧ Kd.R k85 85 W W0.heap.size (fun q => W0.heap.size ≤ q) (.slice x.A x.r.a.length x.c) x.r.a
theorem rec_at {w : World} {A : Option Addr} {n : Nat} {R : List Rd} (h : Kd.C kRc w A n R) (k : Nat) (hk : k < R.length) : ∃ ad B c, A = some ad ∧ R[k].x.ok ∧ (∀ j u, (R[k].x.cells (.slice B R[k].a.length c)).toList[j]? = some u → w.cell? (ad.add (k * 40 + j)) = some u) ∧ R[k].a.length ≤ c ∧ Kd.C k85 w B R[k].a.length R[k].a := by
 obtain ⟨ad, e, hc⟩ := h.2.2 (by rw [h.1] at hk; omega)
 obtain ⟨cs, hl, ⟨ho, B, c, rfl, hcl, hC⟩, hcell⟩ := hc k R[k] (List.getElem?_eq_getElem hk)
 exact ⟨ad, B, c, e, ho, hcell, hcl, hC⟩
theorem R_addr {α : Type} {d : Kd α} {e base : Nat} {ok : Nat → Prop} {w : World} {ad : Addr} {n c : Nat} {xs : List α} (h : d.R e w base ok (.slice (some ad) n c) xs) : ∃ g, ad = ⟨g, 0, none⟩ := by
 obtain ⟨_, _, ⟨_, h2⟩, _⟩ := h
 rcases h2 with ⟨h2, _⟩ | ⟨g, cap, cur, h2, _⟩
 ·
  cases h2
 ·
  cases h2
  exact ⟨g, rfl⟩
set_option maxRecDepth 100000 in
set_option maxHeartbeats 4000000 in
theorem all1_gives (n : Nat) (hn : 1 ≤ n) (Bs g : Nat) (most ver : Int) (l m1 m2 : Value) (R : List Rd) (base : Nat) (ok : Nat → Prop) (w0 w : World) (hblk : w0.heap[g]? = some (.cells (stC most l m1 m2 ver) 81 (0, 0))) (hrec : kRc.R 36 w0 base ok l R) (hla : ∀ r ∈ R, r.a.length < 4398046511104)
  (hB : Below w0.heap.size w0 w) (hBs : w.cell? ⟨Bs, 0, none⟩ = some (.pointer (some ⟨g, 0, none⟩))) :
  Gives Fence.wide n Tryz.prog 60 #[.pointer (some ⟨Bs, 0, none⟩)] Rg.args (Below w0.heap.size) (RgPr R) (fun zs => zs.map Rg.r = R) (fun pre => pre.map Rg.r <+: R) R.length w := by
 intro lp J Jx W hW hY h0
 have hu36 := Tryz.underlying36
 obtain ⟨A, c, rfl, hlc, hC⟩ := Kd.R_reads hrec
 have hBW := hB.trans (hW.mono hB.size)
 have hbs : W.cell? ⟨Bs, 0, none⟩ = some (.pointer (some ⟨g, 0, none⟩)) := (hW.cell (World.block_lt_of_cell? w _ hBs)).trans hBs
 have hl1 : W.cell? ⟨g, 1, none⟩ = some (.slice A R.length c) := (blk_cell (blk_below hblk hBW) 1).trans rfl
 have HBW := Aside0.mk hBW
 have HRC := Aside0.mk hrec
 have HC := Aside0.mk hC
 have HLA := Aside0.mk hla
 have HY := Aside0.mk hY
 have HJ0 := Aside0.mk h0
 have HMX := Kd.C_max hC
 clear hBW hW hB hBs hblk hrec hC hY h0 hla hlc
 refine callsIn_of_wp Tryz.func60 rfl trivial ?_ rfl
 simp only [Tryz.ntmps60, List.size_toArray, List.length_cons, List.length_nil, Nat.reduceAdd, Nat.reduceSub, Array.replicate_succ, Array.replicate_zero, List.push_toArray, List.append_toArray, List.nil_append, List.cons_append]
 gi_wp2
 gi_loopw [12] (fun i wr => ∃ zs : List Rg, zs.length ≤ R.length ∧ zs.map Rg.r = R.take zs.length ∧ i = .int .i64 zs.length ∧ Aside0 (J zs wr) ∧ Aside0 (Below w0.heap.size w0 wr))
  (fun i _ => R.length - (intOf i).toNat)
 case atStart => exact ⟨[], Nat.zero_le _, rfl, rfl, HJ0, HBW⟩
 case round =>
  obtain ⟨zs, hk, hzs, rfl, HJ, HB⟩ := hrel
  by_cases hlt : zs.length < R.length
  ·
   obtain ⟨ad, B, cb, rfl, hok, hcell, hcb, hCa⟩ := rec_at HC.out zs.length hlt
   obtain ⟨gr, rfl⟩ := R_addr HRC.out
   have hbl : ((zs.length : Nat) : Int) < (R.length : Int) := by omega
   have hrow : wr.rangeAt gr (zs.length * 40) (R[zs.length].x.cells (.slice B R[zs.length].a.length cb)).toList := fun j u hu => by
    have h1 := hcell j u hu
    rw [Addr.add_mid, Nat.zero_add] at h1
    exact (HB.out.cell (World.block_lt_of_cell? w0 _ h1)).trans h1
   have hCw := Kd.C_below hCa HB.out
   obtain ⟨x, hx⟩ : ∃ x, x = R[zs.length] := ⟨_, rfl⟩
   have hlx : x.a.length < 4398046511104 := HLA.out x (by rw [hx]; exact List.getElem_mem hlt)
   rw [← hx] at hok hrow hcb hCw
   have hs := Rc.size hok (.slice B x.a.length cb)
   have h1c : (x.x.cells (.slice B x.a.length cb)).all (·.oneCell') = true := Rc.ones x.x rfl
   obtain ⟨cs, hcs⟩ : ∃ cs, cs = x.x.cells (.slice B x.a.length cb) := ⟨_, rfl⟩
   rw [← hcs] at hrow hs h1c
   have HCS := Aside0.mk hcs
   have HROW := Aside0.mk hrow
   have HCB := Aside0.mk hcb
   have HCW := Aside0.mk hCw
   have HOK := Aside0.mk hok
   have HX := Aside0.mk hx
   have HLX := Aside0.mk hlx
   have H1C := Aside0.mk h1c
   have HZS := Aside0.mk hzs
   clear hcell hCa hcs hrow hcb hCw hok hx hlx h1c hzs
   gi_wp2_with (refine listIn_load_mid none n rfl 36 (.tmp 14) rfl gr (zs.length * 40) rfl cs.toList _ HROW.out hu36 rfl (by rw [Array.length_toList, hs]; kernel_rfl) (Aside0.out ?_))
   refine ⟨?_⟩
   refine list_round none n (fun a w h => ?_) _ _ _ (noDef_spec (ops := #[_, _]) (by kernel_rfl)) ?_
   ·
    obtain ⟨⟨v, e⟩, _⟩ := h
    cases e
   go_wp2_with (refine wpList_store_rowTo rfl 36 (.tmp 4) (.tmp 15) rfl rfl wr.heap.size cs rfl rfl 36 z36 (blk_new wr (.cells z36 36)) (by rw [hs]; kernel_rfl) (by rw [hs]; rfl) H1C.out (Aside0.out ?_))
   refine ⟨?_⟩
   have HW : Aside0 (((wr.alloc (.cells z36 36)).setRow wr.heap.size cs).heap[wr.heap.size]? = some (.cells cs 36 (0, 0)) ∧ Below wr.heap.size wr ((wr.alloc (.cells z36 36)).setRow wr.heap.size cs)) :=
    ⟨blk_setRow (blk_new wr _), below_setRow (below_alloc (Below.refl _ _) _) (Nat.le_refl _) _⟩
   obtain ⟨W1, hW1⟩ : ∃ W1, W1 = (wr.alloc (.cells z36 36)).setRow wr.heap.size cs := ⟨_, rfl⟩
   rw [← hW1] at HW
   unfold z36 at hW1
   rw [← hW1]
   clear hW1
   refine wpList_nil ?_
   gi_wp2_with (first | (refine listIn_load_row none n rfl 36 (.tmp 4) rfl wr.heap.size rfl 36 cs (0, 0) _ HW.out.1 hu36 rfl (by rw [hs]; kernel_rfl) (Aside0.out ?_); refine ⟨?_⟩) | (refine ⟨trivial, ?_⟩; gi_at_call 61; change CallsIn Fence.wide _ _ _ _ _ _))
   refine (callsIn_wide.2 (HCS.out ▸ own_walk x.x HOK.out B cb x.a W1 (Kd.C_below HCW.out HW.out.2) HCB.out HLX.out)).mono ?_
   rintro e w2 ⟨A', c', rfl, hR2, hb2⟩
   have hb02 : Below wr.heap.size wr w2 := below_step HW.out.2 hb2
   have hpr : RgPr R ⟨x, A', c'⟩ wr w2 := ⟨by rw [HX.out]; exact List.getElem_mem hlt, HOK.out, Kd.R_mono (Kd.R_lower (Kd.R_bound hR2) HW.out.2.size) (fun q hq => Nat.le_trans HW.out.2.size hq.2.1)⟩
   obtain ⟨fn, tmps, assign, body, hy, hRd⟩ := HY.out zs ⟨x, A', c'⟩ wr w2 HJ.out hb02 hpr hlt
   have HB02 := Aside0.mk hb02
   have HRD := Aside0.mk hRd
   have hw : wrap64 ((zs.length : Int) + 1) = (zs.length : Int) + 1 := by unfold wrap64; omega
   simp only [Rg.args, Rg.val] at hy
   clear hR2 hb2 hpr hb02 hRd
   gi_wp2
   have htk : R.take (zs ++ [(⟨x, A', c'⟩ : Rg)]).length = R.take zs.length ++ [x] := by
    rw [List.length_append, List.length_singleton, List.take_succ_eq_append_getElem hlt, ← HX.out]
   have HTK := Aside0.mk htk
   clear htk
   refine (show RoundIn Fence.wide (n - 1) Tryz.prog lp fn tmps assign body w2 _ from HRD.out).mono ?_
   rintro e W3 (⟨rfl, hJ3, hk3⟩ | ⟨rfl, hJx3⟩)
   ·
    have HB3 := Aside0.mk ((HB.out.trans (HB02.out.mono HB.out.size)).trans hk3)
    have HJ3 := Aside0.mk hJ3
    clear hk3 hJ3
    gi_wp2
    go_roundw
    case rel => exact ⟨zs ++ [⟨x, A', c'⟩], by simp; omega, by rw [HTK.out, List.map_append, HZS.out]; rfl, by simp [hw], HJ3, HB3⟩
    case measure => simp [intOf, hw]; omega
   ·
    have HJx := Aside0.mk hJx3
    clear hJx3
    gi_wp2
    refine bodyPost_ret (results_none rfl _ _ _) rfl ?_
    exact ⟨⟨_, rfl⟩, .inr ⟨_, ⟨R.drop (zs ++ [(⟨x, A', c'⟩ : Rg)]).length, by rw [List.map_append, HZS.out, List.map_singleton, ← HTK.out]; exact List.take_append_drop _ _⟩, HJx.out⟩⟩
  ·
   have hkl : zs.length = R.length := by omega
   have hz : ¬ (zs.length : Int) < (R.length : Int) := by omega
   gi_wp2
   go_end0
   exact ⟨⟨_, rfl⟩, .inl ⟨zs, by rw [hzs, hkl]; exact List.take_length, HJ.out⟩⟩
end Go.Proofs.YtefeibndnghejaaGreatDoor.Pr
end
section
set_option linter.unusedVariables false
set_option linter.unusedSimpArgs false
namespace Go.Proofs.YtefeibndnghejaaGreatDoor.Pr
open Go.RowKit Go.Shelf Go.Proofs.YtefeibndnghejaaGreatDoorW.PrintWords Go.Proofs.YtefeibndnghejaaGreatDoorW.PrintLast Go.Proofs.YtefeibndnghejaaGreatDoorW.PrintMore
attribute [local go_sem] Oper.semAt_some
def countK (kind : Int) (R : List Rd) : Nat := (R.filter fun r => decide (kind = 0 ∨ r.x.kd = kind)).length
theorem countK_snoc (kind : Int) (R : List Rd) (r : Rd) : countK kind (R ++ [r]) = countK kind R + if kind = 0 ∨ r.x.kd = kind then 1 else 0 := by
 unfold countK
 rw [List.filter_append, List.length_append]
 by_cases h : kind = 0 ∨ r.x.kd = kind
 ·
  rw [if_pos h, List.filter_cons, if_pos (decide_eq_true h)]; rfl
 ·
  rw [if_neg h, List.filter_cons, if_neg (by simpa using h)]; rfl
theorem countK_le (kind : Int) (R : List Rd) : countK kind R ≤ R.length := List.length_filter_le _ _
theorem recBox (W : World) (cs : Array Value) : ((W.alloc (.cells z36 36)).setRow W.heap.size cs).heap[W.heap.size]? = some (.cells cs 36 (0, 0)) ∧ Below W.heap.size W ((W.alloc (.cells z36 36)).setRow W.heap.size cs) :=
 ⟨blk_setRow (blk_new W _), below_setRow (below_alloc (Below.refl _ _) _) (Nat.le_refl _) _⟩
theorem keeps_of_below {B : Nat} {W W1 : World} (h : Below W.heap.size W W1) : KeepsFrom B W W1 := ⟨h.size, fun k o _ hk _ => (h.block k (Array.getElem?_eq_some_iff.1 hk).1).trans hk⟩
theorem blk_put {W : World} {k l : Nat} {o o' : Obj} (h : W.heap[k]? = some o) (hne : k ≠ l) : (W.putObj l o').heap[k]? = some o := (World.putObj_heap_other hne).trans h
theorem exec_alloc36 {ρ : Operand → Value} {o : Oper} (ho : o.op = .alloc 36) (W : World) : (execOp ρ o).run Tryz.prog W = .ok (.value (.pointer (some ⟨W.heap.size, 0, none⟩))) (W.alloc (.cells z36 36)) := by
 unfold execOp
 rw [ho]
 go_simp
 rfl
theorem assign_box {p q id n : Nat} {o1 o2 : Oper} (lr : Nat) {Q : Exit → Act → World → Prop} (hq : ∀ a w, ¬ Q .outgrown a w) (h1 : o1.op = .alloc 36) (h1d : o1.dst = some p) (h1g : o1.guard = none) (h2 : o2.op = .store 36 (.tmp p) (.tmp q)) (h2d : o2.dst = none) (h2g : o2.guard = none)
  {a : Act} {W : World} {cs : Array Value} (hs : cs.size = 40) (h1c : cs.all (·.oneCell') = true) (hp : (a.put (some p) (.pointer (some ⟨W.heap.size, 0, none⟩))).eval (.tmp p) = .pointer (some ⟨W.heap.size, 0, none⟩)) (hv : (a.put (some p) (.pointer (some ⟨W.heap.size, 0, none⟩))).eval (.tmp q) = .agg cs)
  (h : Q .normal (a.put (some p) (.pointer (some ⟨W.heap.size, 0, none⟩))) ((W.alloc (.cells z36 36)).setRow W.heap.size cs)) : (Code.region id #[o1, o2] false).wpIn (Fence.wide.inRound lr) n Tryz.prog Q a W := by
 refine region_round (some lr) _ hq (by simp [noDef, h1, h2]) ?_
 refine wpList_plain h1g (fun K hK => ?_)
 unfold Oper.wp
 rw [exec_alloc36 h1, Oper.upon_value, h1d]
 refine hK _ _ ?_
 exact wpList_store_rowTo h2g 36 (.tmp p) (.tmp q) h2 h2d W.heap.size cs hp hv 36 z36 (blk_new W (.cells z36 36)) (by rw [hs]; kernel_rfl) (by rw [hs]; rfl) h1c h
theorem zip_one (q : Nat) (x : Rg) (t : Array Value) : (#[q].zip x.args).foldl (fun t (p, v) => t.setIfInBounds p v) t = t.setIfInBounds q (.agg x.val) := by simp [Rg.args]
def LI (w : World) (kind : Int) (pre : List Rg) (W : World) : Prop := (Boxed W w.heap.size 3 (.int .i64 kind) ∧ Boxed W (w.heap.size + 1) 3 (.int .i64 (countK kind (pre.map Rg.r)))) ∧ Below w.heap.size w W
theorem LI_own (w : World) (kind : Int) (B : Nat) (hB : w.heap.size ≤ B) : OwnFrom B (LI w kind) :=
 OwnFrom.and (OwnFrom.and (Own.from (boxed_own _ 3 (fun _ => .int .i64 kind)) _) (Own.from (boxed_own _ 3 (fun pre : List Rg => .int .i64 (countK kind (pre.map Rg.r)))) _)) (ownFrom_below (Nat.le_refl _) hB)
theorem LI_step {w : World} {kind : Int} {pre : List Rg} {W W' : World} (h : LI w kind pre W) (hb : Below W.heap.size W W') : LI w kind pre W' :=
 ⟨⟨boxed_below h.1.1 hb, boxed_below h.1.2 hb⟩, h.2.trans (hb.mono h.2.size)⟩
set_option maxRecDepth 100000 in
set_option maxHeartbeats 4000000 in
theorem len_walk (g : Nat) (most ver kind : Int) (l m1 m2 : Value) (R : List Rd) (base : Nat) (ok : Nat → Prop) (w : World) (hblk : w.heap[g]? = some (.cells (stC most l m1 m2 ver) 81 (0, 0))) (hrec : kRc.R 36 w base ok l R) (hla : ∀ r ∈ R, r.a.length < 4398046511104) (hR : R.length < 1048576) :
  Calls Tryz.prog 33 #[.pointer (some ⟨g, 0, none⟩), .int .i64 kind] w fun e w' => e = .returned (.int .i64 (countK kind R)) ∧ Below w.heap.size w w' := by
 have HBLK := Aside0.mk hblk
 have HREC := Aside0.mk hrec
 have HLA := Aside0.mk hla
 have HRL := Aside0.mk hR
 clear hblk hrec hla hR
 refine (callsIn_wide (n := 5)).1 ?_
 refine callsIn_of_wp_marks Tryz.func33 rfl trivial ?_ rfl
 simp only [Tryz.ntmps33, List.size_toArray, List.length_cons, List.length_nil, Nat.reduceAdd, Nat.reduceSub, Array.replicate_succ, Array.replicate_zero, List.push_toArray, List.append_toArray, List.nil_append, List.cons_append]
 gi_wp2_with (refine ⟨trivial, ?_⟩; gi_at_call 31; refine (all_in Fence.wide _ trivial rfl _ _).mono ?_; rintro e w' ⟨rfl, rfl⟩)
 have bK := Boxed.new w 3 (.int .i64 kind)
 have bN := Boxed.new (w.alloc (.cells #[.int .i64 kind] 3)) 3 (.int .i64 0)
 have bG := Boxed.new ((w.alloc (.cells #[.int .i64 kind] 3)).alloc (.cells #[.int .i64 0] 3)) 23 (.pointer (some ⟨g, 0, none⟩))
 simp only [World.size_alloc] at bN bG
 have hB0 : Below w.heap.size w (((w.alloc (.cells #[.int .i64 kind] 3)).alloc (.cells #[.int .i64 0] 3)).alloc (.cells #[.pointer (some ⟨g, 0, none⟩)] 23)) := below_alloc (below_alloc (below_alloc (Below.refl _ _) _) _) _
 refine range_gives (F := Fence.wide) rfl (by omega) (gf := 60) (lb := #[.pointer (some ⟨w.heap.size + 1 + 1, 0, none⟩)]) rfl trivial (enters_of Tryz.func60 (by kernel_rfl) rfl)
  (all1_gives _ (by omega) (w.heap.size + 1 + 1) g most ver l m1 m2 R base ok w _ HBLK.out HREC.out HLA.out hB0 bG.cell) belowK_t (belowK_b (by simp; omega)) (Below.refl _ _) (fun _ => rfl)
  (LI w kind) (fun _ _ _ => False) (LI_own w kind _ (by simp; omega)) (fun _ _ _ _ _ hs _ _ => hs) ⟨⟨(bK.alloc _).alloc _, bN.alloc _⟩, hB0⟩ ?round ?done ?stop
 case stop =>
  rintro D c pre W _ _ h _
  exact h.elim
 case round =>
  rintro lr pre x W0 W hl1 hl20 hl2 hI hbW ⟨_, hok, _⟩ hlen
  replace hl2 : lr < W.heap.size := Nat.lt_of_lt_of_le hl20 hbW.size
  have hI' := LI_step hI hbW
  have hs : x.val.size = 40 := Rc.size hok _
  have h1c : x.val.all (·.oneCell') = true := Rc.ones x.r.x rfl
  have hk : x.val[0]? = some (.int .i64 x.r.x.kd) := rfl
  have HI := Aside0.mk hI'
  have HW := Aside0.mk (recBox W x.val)
  have HL := Aside0.mk (And.intro hl1 hl2)
  have hcl : countK kind (pre.map Rg.r) < 1048576 := by
   have h1 := countK_le kind (pre.map Rg.r)
   rw [List.length_map] at h1
   have := HRL.out
   omega
  have hsn := countK_snoc kind (pre.map Rg.r) x.r
  have HSN : Aside0 (countK kind ((pre ++ [x]).map Rg.r) = countK kind (pre.map Rg.r) + if kind = 0 ∨ x.r.x.kd = kind then 1 else 0) := ⟨by rw [List.map_append]; exact hsn⟩
  clear hI hI' hbW hl1 hl2 hsn
  unfold RoundGoes
  rw [zip_one]
  simp only [List.setIfInBounds_toArray, List.set_cons_succ, List.set_cons_zero]
  refine assign_box (cs := x.val) lr (fun _ _ h => h) rfl rfl rfl rfl rfl rfl hs h1c rfl rfl ?_
  obtain ⟨W1, hW1⟩ : ∃ W1, W1 = (W.alloc (.cells z36 36)).setRow W.heap.size x.val := ⟨_, rfl⟩
  rw [← hW1] at HW ⊢
  clear hW1
  refine ⟨keeps_of_below HW.out.2, HW.out.2.mono HI.out.2.size, fun r => ?_⟩
  have hb2 : (W1.putObj lr (.loop r)).heap[W.heap.size]? = some (.cells x.val 36 (0, 0)) := blk_put HW.out.1 (by have := HL.out.2; omega)
  have hne1 : w.heap.size ≠ lr := fun e => by have h1 := HL.out.1; simp at h1; omega
  have hne2 : w.heap.size + 1 ≠ lr := fun e => by have h1 := HL.out.1; simp at h1; omega
  have hI1 := LI_step HI.out HW.out.2
  have hk2 : Boxed (W1.putObj lr (.loop r)) w.heap.size 3 (.int .i64 kind) := blk_put hI1.1.1 hne1
  have hn2 : Boxed (W1.putObj lr (.loop r)) (w.heap.size + 1) 3 (.int .i64 (countK kind (pre.map Rg.r))) := blk_put hI1.1.2 hne2
  have hlr : lr < W1.heap.size := Nat.lt_of_lt_of_le HL.out.2 HW.out.2.size
  have hlw : w.heap.size ≤ lr := by have h1 := HL.out.1; simp at h1; omega
  have hbel : Below w.heap.size w (W1.putObj lr (.loop r)) := hI1.2.trans ((Below.refl _ W1).grown (grownBy_putObj' W1 lr _) hI1.2.size (fun k e => by cases e; exact hlw))
  generalize W1.putObj lr (.loop r) = W2 at hb2 hk2 hn2 hbel ⊢
  have c0 := (blk_cell hb2 0).trans hk
  have ck := hk2.cell
  have cn := hn2.cell
  have fn := hn2.frozen
  have HBEL := Aside0.mk hbel
  have HK2 := Aside0.mk hk2
  have HN2 := Aside0.mk hn2
  have hw1 : wrap64 ((countK kind (pre.map Rg.r) : Int) + 1) = ((countK kind (pre.map Rg.r) + 1 : Nat) : Int) := by unfold wrap64; omega
  clear hk hne1 hne2 hI1 hbel hk2 hlr hlw HI
  have more : (kind = 0 ∨ x.r.x.kd = kind) → ∀ a, ownPostG (((w.alloc (.cells #[.int .i64 kind] 3)).alloc (.cells #[.int .i64 0] 3)).alloc (.cells #[.pointer (some ⟨g, 0, none⟩)] 23)).heap.size (Below w.heap.size) (LI w kind) (fun _ _ _ => False) (pre ++ [x]) W2 .normal a (W2.setCell ⟨w.heap.size + 1, 0, none⟩ (.int .i64 ((countK kind (pre.map Rg.r) + 1 : Nat) : Int))) := fun hc a => by
   have e : countK kind ((pre ++ [x]).map Rg.r) = countK kind (pre.map Rg.r) + 1 := by rw [HSN.out, if_pos hc]
   have hbs : Below w.heap.size W2 (W2.setCell ⟨w.heap.size + 1, 0, none⟩ (.int .i64 ((countK kind (pre.map Rg.r) + 1 : Nat) : Int))) := (Below.refl _ _).setCell (by show w.heap.size ≤ w.heap.size + 1; omega) _
   exact ⟨(KeepsOthers.setCell _ _ _).from _, hbs, ⟨HK2.out.other (by omega) _, by rw [e]; exact HN2.out.set _⟩, HBEL.out.trans hbs⟩
  have same : ¬ (kind = 0 ∨ x.r.x.kd = kind) → ∀ a, ownPostG (((w.alloc (.cells #[.int .i64 kind] 3)).alloc (.cells #[.int .i64 0] 3)).alloc (.cells #[.pointer (some ⟨g, 0, none⟩)] 23)).heap.size (Below w.heap.size) (LI w kind) (fun _ _ _ => False) (pre ++ [x]) W2 .normal a W2 := fun hc a => by
   have e : countK kind ((pre ++ [x]).map Rg.r) = countK kind (pre.map Rg.r) := by rw [HSN.out, if_neg hc, Nat.add_zero]
   exact ⟨KeepsFrom.refl _ _, Below.refl _ _, ⟨HK2.out, by rw [e]; exact HN2.out⟩, HBEL.out⟩
  have MORE := Aside0.mk more
  have SAME := Aside0.mk same
  clear more same hn2
  by_cases hz : kind = 0
  ·
   have b1 : (kind == 0) = true := by simp [hz]
   have HZ := Aside0.mk hz
   clear hz
   gi_wp2
   exact MORE.out (.inl HZ.out) _
  ·
   have b1 : (kind == 0) = false := by simp [hz]
   have HZ := Aside0.mk hz
   clear hz
   by_cases hx : x.r.x.kd = kind
   ·
    have b2 : (x.r.x.kd == kind) = true := by simp [hx]
    have HX := Aside0.mk hx
    clear hx
    gi_wp2
    exact MORE.out (.inr HX.out) _
   ·
    have b2 : (x.r.x.kd == kind) = false := by simp [hx]
    have HX := Aside0.mk hx
    clear hx
    gi_wp2
    exact SAME.out (fun h => h.elim HZ.out HX.out) _
 case done =>
  rintro D zs W hD hzs ⟨⟨hk, hn⟩, hB⟩ hK
  have hc := hn.cell
  have HB := Aside0.mk hB
  have HK := Aside0.mk hK
  rw [hzs] at hc
  clear hn hk hB
  gi_wp2
  refine ⟨by simp, .inl ⟨_, _, rfl, run_takeDeferred HK.out, ?_⟩⟩
  refine ⟨_, results_tmp rfl _ _ _, rfl, ?_⟩
  exact HB.out.trans (belowK_b (w := w) (Nat.le_refl _) W D _ _ (by simp at hD; omega) HK.out rfl rfl)
end Go.Proofs.YtefeibndnghejaaGreatDoor.Pr
end
section
set_option linter.unusedVariables false
set_option linter.unusedSimpArgs false
namespace Go.Proofs.YtefeibndnghejaaGreatDoor.Pr
open Go.RowKit Go.Proofs.YtefeibndnghejaaGreatDoorW.PrintWords Go.Proofs.YtefeibndnghejaaGreatDoorW.PrintLast Go.Proofs.YtefeibndnghejaaGreatDoorW.PrintMore
def belfryref05_Lent.T7 : Bool × List (List Nat × List Nat) := (true, [([], []), ([0], [0]), ([], []), ([], []), ([2, 3], [2, 3]), ([4], [4]), ([5], [5]), ([1, 6], [1, 6]), ([0, 1, 2, 3, 4, 5, 6, 7], []), ([8, 7, 7, 0, 1, 2, 3, 4, 5, 6, 7], [7, 8])])
def belfryref05_Lent.B7 : List Nat := [0, 1, 0, 0, 12, 28, 60, 127, 255, 511]
set_option maxRecDepth 100000 in
theorem belfryref05_Lent.tab7 : rtab .any (opsOf Tryz.f48 7) = belfryref05_Lent.T7 := by kernel_rfl
set_option maxRecDepth 100000 in
theorem belfryref05_Lent.bits7 : waitsOk belfryref05_Lent.T7.2 belfryref05_Lent.B7 = true := by kernel_rfl
theorem wpList_buildRec {ops : Array Oper} {rest : List Oper} {o : Oper} {a : Act} {w : World} {Q : Exit → Act → World → Prop} (n : Nat) (hg : o.guard = none) (ho : o.op = .buildSlice 29 1 #[(0, .tmp n)])
  (dst : Option Tmp) (hdst : o.dst = dst) {cs : Array Value} (hs : cs.size = 40) (hx : a.eval (.tmp n) = .agg cs)
  (h : wpList Tryz.prog ops Q rest (a.put dst (.slice (some ⟨w.heap.size, 0, none⟩) 1 1)) (w.alloc (.cells cs 36))) : wpList Tryz.prog ops Q (o :: rest) a w := by
 refine Go.Great.wpList_buildRows hg 29 36 #[(0, .tmp n)] 40 [.agg cs] ho (fun _ => n) _ rfl dst hdst Tryz.underlying29 (by kernel_rfl) (by kernel_rfl) (by omega) (by simp) (by simp) rfl (fun v hv => by rw [List.mem_singleton.1 hv]; exact hs) (fun i hi => ?_) ?_
 ·
  match i, hi with
  | 0, _ => exact hx
 ·
  have e : ([Value.agg cs].flatMap fun v => v.cells.toList).toArray = cs := by simp [Value.cells]
  rw [e]
  exact h
set_option maxHeartbeats 8000000 in
set_option maxRecDepth 100000 in
theorem lent1_walk (g0 : Nat) (x : Rc) (hx : x.ok) (B : Option Addr) (cb : Nat) (ts : List S85) (w : World) (hb : w.heap[g0]? = some (.cells (x.cells (.slice B ts.length cb)) 36 (0, 0)))
  (ha : Kd.C k85 w B ts.length ts) (hac : ts.length ≤ cb) (ht : ts.length < 4398046511104) :
  Calls Tryz.prog 48 #[.slice (some ⟨g0, 0, none⟩) 1 1] w fun e w' => ∃ v, e = .returned v ∧ kRc.R 36 w' w.heap.size (fun _ => True) v [⟨x, ts⟩] ∧ Below w.heap.size w w' := by
 have hu36 := Tryz.underlying36
 have HB := Aside0.mk hb
 have HA := Aside0.mk ha
 have HX := Aside0.mk hx
 clear hb ha hx
 obtain ⟨cs, hcs⟩ : ∃ cs, cs = x.cells (.slice B ts.length cb) := ⟨_, rfl⟩
 have hs : cs.size = 40 := by rw [hcs]; exact Rc.size HX.out _
 have h1 : cs.all (·.oneCell') = true := by rw [hcs]; exact Rc.ones x rfl
 have h2 : cs[2]? = some (.slice B ts.length cb) := by rw [hcs]; exact Rc.at2 x _
 rw [← hcs] at HB
 have HCS := Aside0.mk hcs
 have H1 := Aside0.mk h1
 clear hcs h1
 go_enter Tryz.func48, Tryz.ntmps48
 go_wp2
 refine wp_loop_rounds 2 ?_
 rw [rounds_succ]
 go_wp2_with (refine wpList_load_row rfl 36 (.tmp 14) rfl g0 rfl 36 cs (0, 0) _ HB.out hu36 rfl (by rw [hs]; kernel_rfl) (Aside0.out ?_))
 refine ⟨?_⟩
 go_wp2_with (refine wpList_store_rowTo rfl 36 (.tmp 5) (.tmp 15) rfl rfl w.heap.size cs rfl rfl 36 z36 (blk_new w (.cells z36 36)) (by rw [hs]; kernel_rfl) (by rw [hs]; rfl) H1.out (Aside0.out ?_))
 refine ⟨?_⟩
 have HW : Aside0 (((w.alloc (.cells z36 36)).setRow w.heap.size cs).heap[w.heap.size]? = some (.cells cs 36 (0, 0)) ∧ Below w.heap.size w ((w.alloc (.cells z36 36)).setRow w.heap.size cs)) :=
  ⟨blk_setRow (blk_new w _), below_setRow (below_alloc (Below.refl _ _) _) (Nat.le_refl _) _⟩
 have hW : (w.alloc (.cells z36 36)).setRow w.heap.size cs = (w.alloc (.cells z36 36)).setRow w.heap.size cs := rfl
 unfold z36 at hW
 obtain ⟨W1, hW1⟩ : ∃ W1, W1 = (w.alloc (.cells z36 36)).setRow w.heap.size cs := ⟨_, rfl⟩
 rw [← hW1] at HW
 unfold z36 at hW1
 rw [← hW1]
 clear hW hW1
 have q2 := (blk_cell HW.out.1 2).trans h2
 have f2 := blk_frozen HW.out.1 2
 go_upto_region 7 with (fail)
 have HW2 : Aside0 ((W1.setCell ⟨w.heap.size, 2, none⟩ (.slice none 0 0)).heap[w.heap.size]? = some (.cells (x.cells (.slice none 0 0)) 36 (0, 0)) ∧ Below w.heap.size w (W1.setCell ⟨w.heap.size, 2, none⟩ (.slice none 0 0))) := by
  refine ⟨?_, HW.out.2.setCell (by simp) _⟩
  have := blk_set HW.out.1 2 (.slice none 0 0)
  rw [HCS.out, Rc.set2] at this
  exact this
 generalize W1.setCell ⟨w.heap.size, 2, none⟩ (.slice none 0 0) = W2 at HW2 ⊢
 clear HW q2 f2
 have HLT : Aside0 (w.heap.size < W2.drew.heap.size) := ⟨blk_lt HW2.out.1⟩
 refine start_ (n := 10) (S := fun w' => w'.cell? ⟨w.heap.size, 2, none⟩ = some (.slice none 0 0) ∧ w'.cell? ⟨g0, 2, none⟩ = some (.slice B ts.length cb)) (ds := [9]) #[false, false, false, false, false, false, false, false, false, false] (by kernel_rfl) rfl rfl ⟨(blk_cell HW2.out.1 2).trans rfl, (blk_cell (blk_below HB.out HW2.out.2) 2).trans h2⟩ (fun hHeld => ?_)
 refine with_tabW belfryref05_Lent.tab7 belfryref05_Lent.bits7 (fun HT_ HW_ => ?_)
 replace HW2 := Aside0.mk (show W2.drew.heap[w.heap.size]? = some (.cells (x.cells (.slice none 0 0)) 36 (0, 0)) ∧ Below w.heap.size w W2.drew from ⟨HW2.out.1, below_drew1 HW2.out.2⟩)
 generalize W2.drew = W0 at hHeld HW2 HLT ⊢
 refine pure_ (i := 0) (N := some 17) (v := ?_) (a' := ?_) #[true, false, false, false, false, false, false, false, false, false] rfl rfl (any_of HT_.out (by kernel_rfl)) (fun _ _ _ h => h) (Or.inl ⟨by rfl, ?_⟩) ?_ ?_
 rotate_left
 ·
  intro w'
  go_simp
  with_reducible rfl
 rotate_left
 ·
  simp only [Act.put, List.setIfInBounds_toArray, List.set_cons_zero, List.set_cons_succ, i64_w, i32_w]
  rfl
 refine pure_ (i := 2) (N := some 19) (v := ?_) (a' := ?_) #[true, false, true, false, false, false, false, false, false, false] rfl rfl (any_of HT_.out (by kernel_rfl)) (fun _ _ _ h => h) (Or.inl ⟨by rfl, ?_⟩) ?_ ?_
 rotate_left
 ·
  intro w'
  go_simp
  with_reducible rfl
 rotate_left
 ·
  simp only [Act.put, List.setIfInBounds_toArray, List.set_cons_zero, List.set_cons_succ, i64_w, i32_w]
  rfl
 refine pure_ (i := 3) (N := some 20) (v := ?_) (a' := ?_) #[true, false, true, true, false, false, false, false, false, false] rfl rfl (any_of HT_.out (by kernel_rfl)) (fun _ _ _ h => h) (Or.inl ⟨by rfl, ?_⟩) ?_ ?_
 rotate_left
 ·
  intro w'
  go_simp
  with_reducible rfl
 rotate_left
 ·
  simp only [Act.put, List.setIfInBounds_toArray, List.set_cons_zero, List.set_cons_succ, i64_w, i32_w]
  rfl
 refine pure_ (i := 4) (N := some 21) (v := ?_) (a' := ?_) #[true, false, true, true, true, false, false, false, false, false] rfl rfl (any_of HT_.out (by kernel_rfl)) (fun _ _ _ h => h) (Or.inl ⟨by rfl, ?_⟩) ?_ ?_
 rotate_left
 ·
  intro w'
  go_simp
  with_reducible rfl
 rotate_left
 ·
  simp only [Act.put, List.setIfInBounds_toArray, List.set_cons_zero, List.set_cons_succ, i64_w, i32_w]
  rfl
 refine pure_ (i := 5) (N := some 22) (v := ?_) (a' := ?_) #[true, false, true, true, true, true, false, false, false, false] rfl rfl (any_of HT_.out (by kernel_rfl)) (fun _ _ _ h => h) (Or.inl ⟨by rfl, ?_⟩) ?_ ?_
 rotate_left
 ·
  intro w'
  go_simp
  with_reducible rfl
 rotate_left
 ·
  simp only [Act.put, List.setIfInBounds_toArray, List.set_cons_zero, List.set_cons_succ, i64_w, i32_w]
  rfl
 refine take_ (i := 1) (N := some 18) (v := ?_) (a' := ?_) #[true, true, true, true, true, true, false, false, false, false] rfl rfl (take_ofW HT_.out HW_.out (by kernel_rfl)) (fun _ _ _ h => h) (Or.inl ⟨by rfl, ?_⟩) hHeld ?_ ?_
 rotate_left
 ·
  rintro w' ⟨s0, s1⟩
  go_simp
  with_reducible rfl
 rotate_left
 ·
  simp only [Act.put, List.setIfInBounds_toArray, List.set_cons_zero, List.set_cons_succ, i64_w, i32_w]
  rfl
 refine take_ (i := 6) (N := some 23) (v := ?_) (a' := ?_) #[true, true, true, true, true, true, true, false, false, false] rfl rfl (take_ofW HT_.out HW_.out (by kernel_rfl)) (fun _ _ _ h => h) (Or.inl ⟨by rfl, ?_⟩) hHeld ?_ ?_
 rotate_left
 ·
  rintro w' ⟨s0, s1⟩
  go_simp
  with_reducible rfl
 rotate_left
 ·
  simp only [Act.put, List.setIfInBounds_toArray, List.set_cons_zero, List.set_cons_succ, i64_w, i32_w]
  rfl
 refine one_ (i := 7) (N := some 24) #[true, true, true, true, true, true, true, true, false, false] rfl rfl (one_of HT_.out (by kernel_rfl)) (by decide) (fun K hK => ?_)
 refine Kd.R_append_rows_step k85 (Rr := k85.K W0) (w0 := W0) W0.heap.size (by rfl) (.tmp 18) (.tmp 23) 32 85 (.agg #[(.string ⟨#[]⟩), (.string ⟨#[]⟩)]) 32 rfl Tryz.underlying32 info85 rfl (by decide) (by omega) (.slice none 0 0) ([] : List S85) ts B ts.length cb (fun _ => True) (fun _ => False) rfl rfl (Kd.R_nil _ _ _ _ _) (Kd.C_below HA.out HW2.out.2) (fun y cs hy => by rw [k85_open hy]; exact k85_mkM _ _ _ y) (fun _ h => h.elim) (fun _ _ => trivial) (Below.refl _ _) (Nat.le_refl _) (by simp only [List.length_nil, Nat.zero_add]; omega) ?_
 intro v1 w1 hR hb hg _
 rw [List.nil_append] at hR
 have HR := Aside0.mk (Kd.R_lower hR (Nat.le_of_lt HLT.out))
 have HB1 := Aside0.mk hb
 replace HW2 := Aside0.mk (show w1.heap[w.heap.size]? = some (.cells (x.cells (.slice none 0 0)) 36 (0, 0)) ∧ Below w.heap.size w w1 from ⟨blk_below HW2.out.1 hb, below_step HW2.out.2 hb⟩)
 have hlt : w.heap.size < W0.heap.size := HLT.out
 clear hR
 refine hK.out _ _ ⟨(hb.cell (World.block_lt_of_cell? W0 _ hHeld.1)).trans hHeld.1, (hb.cell (World.block_lt_of_cell? W0 _ hHeld.2)).trans hHeld.2⟩ (fun hHeld => ?_)
 clear hK K hb hg
 obtain ⟨A1, c1, rfl⟩ := Kd.R_slice HR.out
 refine norm_ (a' := ?_) ?_ ?_
 rotate_left
 ·
  show Act.put _ (some 24) _ = _
  simp only [Act.put, List.setIfInBounds_toArray, List.set_cons_zero, List.set_cons_succ, i64_w, i32_w]
  rfl
 refine pure_ (i := 8) (N := some 25) (v := ?_) (a' := ?_) #[true, true, true, true, true, true, true, true, true, false] rfl rfl (any_of HT_.out (by kernel_rfl)) (fun _ _ _ h => h) (Or.inl ⟨by rfl, ?_⟩) ?_ ?_
 rotate_left
 ·
  intro w'
  go_simp
  with_reducible rfl
 rotate_left
 ·
  simp only [Act.put, List.setIfInBounds_toArray, List.set_cons_zero, List.set_cons_succ, i64_w, i32_w]
  rfl
 refine last_ (i := 9) (N := none) #[true, true, true, true, true, true, true, true, true, true] rfl rfl (one_of HT_.out (by kernel_rfl)) (by decide) (fun K hK => ?_)
 have hs9 := hHeld.1
 have hf9 := blk_frozen HW2.out.1 2
 refine skip_ (w1 := ?_) (by rfl) rfl ?_ ?_
 rotate_left
 ·
  go_simp
  rfl
 refine hK.out _ _ ?_
 clear hK K
 refine done_ (done_of HT_.out (by kernel_rfl)) ?_
 have HW3 : Aside0 ((w1.setCell ⟨w.heap.size, 2, none⟩ (.slice A1 ts.length c1)).heap[w.heap.size]? = some (.cells (x.cells (.slice A1 ts.length c1)) 36 (0, 0)) ∧ Below w.heap.size w (w1.setCell ⟨w.heap.size, 2, none⟩ (.slice A1 ts.length c1))) := by
  refine ⟨?_, HW2.out.2.setCell (by simp) _⟩
  have := blk_set HW2.out.1 2 (.slice A1 ts.length c1)
  rw [Rc.set2] at this
  exact this
 have HR3 := Aside0.mk (Kd.R_set HR.out HW2.out.1 (by decide) 2 (.slice A1 ts.length c1))
 generalize w1.setCell ⟨w.heap.size, 2, none⟩ (.slice A1 ts.length c1) = W3 at HW3 HR3 ⊢
 clear HW2 HR HB1 HLT
 go_wp2_with (first
  | refine wpList_load_row rfl 36 (.tmp 5) rfl w.heap.size rfl 36 (x.cells (.slice A1 ts.length c1)) (0, 0) _ HW3.out.1 hu36 rfl (by rw [Rc.size HX.out]; kernel_rfl) (Aside0.out ?_))
 refine ⟨?_⟩
 refine wpList_buildRec 27 rfl rfl (some 28) rfl (Rc.size HX.out (.slice A1 ts.length c1)) rfl ?_
 go_wp2_with (((with_reducible refine gate_builtin (b := .append) (xs := #[.tmp 26, .tmp 28]) rfl ?_); at_builtin; refine Aside0.out ?_))
 refine ⟨?_⟩
 refine Kd.R_append kRc (w0 := W3) w.heap.size rfl (.tmp 26) (.tmp 28) 29 36 (.agg z36) 128 rfl Tryz.underlying29 info36 rfl (show 0 < 40 from by decide) (by omega) (.slice none 0 0) ([] : List Rd) ⟨x, ts⟩ (x.cells (.slice A1 ts.length c1)).toList (fun _ => True) (fun _ => True) rfl rfl ⟨HX.out, _, rfl, HR3.out⟩ (fun _ _ => ⟨trivial, fun e => by cases e⟩) (fun _ _ => trivial) (Kd.R_nil _ _ _ _ _) (Below.refl _ _) HW3.out.2.size (by simp) ?_
 intro v4 W4 hR4 hb4 _ _
 rw [List.nil_append] at hR4
 have HR4 := Aside0.mk hR4
 have HB4 := Aside0.mk (HW3.out.2.trans hb4)
 clear hR4 hb4
 obtain ⟨A4, c4, rfl⟩ := Kd.R_slice HR4.out
 go_wp2
 rw [rounds_succ]
 go_wp2
 first | go_end0 | refine bodyPost_ret (results_tmp rfl _ _ _) rfl ?_
 exact ⟨_, rfl, HR4.out, HB4.out⟩
end Go.Proofs.YtefeibndnghejaaGreatDoor.Pr
end
section
set_option linter.unusedVariables false
set_option linter.unusedSimpArgs false
namespace Go.Proofs.YtefeibndnghejaaGreatDoor.Pr
open Go.RowKit Go.Proofs.YtefeibndnghejaaGreatDoorW.PrintWords Go.Proofs.YtefeibndnghejaaGreatDoorW.PrintLast Go.Proofs.YtefeibndnghejaaGreatDoorW.PrintMore
def Wr (e sz : Nat) (F : Nat → Prop) (W : World) (v : Value) : Prop := ∃ A m c, v = .slice A m c ∧ m ≤ c ∧ m ≤ 9223372036854775807 ∧ (m = 0 ∨ ∃ g cur, A = some ⟨g, 0, none⟩ ∧ F g ∧ W.heap[g]? = some (.cells cur e (0, 0)) ∧ m * sz ≤ cur.size)
theorem Wr.set {e sz : Nat} {F : Nat → Prop} {W : World} {v : Value} (h : Wr e sz F W v) {g t : Nat} {cs : Array Value} (hb : W.heap[g]? = some (.cells cs t (0, 0))) (j : Nat) (u : Value) : Wr e sz F (W.setCell ⟨g, j, none⟩ u) v := by
 obtain ⟨A, m, c, rfl, hc, hm, h⟩ := h
 refine ⟨A, m, c, rfl, hc, hm, ?_⟩
 rcases h with rfl | ⟨g1, cur, rfl, h1, h3, h4⟩
 ·
  exact .inl rfl
 ·
  by_cases hg : g1 = g
  ·
   subst hg
   rw [hb] at h3
   injection h3 with h3
   injection h3 with h5 h6
   subst h5; subst h6
   exact .inr ⟨g1, _, rfl, h1, blk_set hb j u, by simpa using h4⟩
  ·
   exact .inr ⟨g1, cur, rfl, h1, blk_far h3 (by simpa using hg) u, h4⟩
theorem Wr.at2 {F : Nat → Prop} {W : World} {A : Option Addr} {m c : Nat} (h : Wr 85 2 F W (.slice A m c)) (k : Nat) (hk : k < m) : ∃ g cur u1 u2, A = some ⟨g, 0, none⟩ ∧ F g ∧ W.heap[g]? = some (.cells cur 85 (0, 0)) ∧ W.cell? ⟨g, k * 2, none⟩ = some u1 ∧ W.cell? ⟨g, k * 2 + 1, none⟩ = some u2 ∧ W.frozen? ⟨g, k * 2, none⟩ = false ∧ W.frozen? ⟨g, k * 2 + 1, none⟩ = false := by
 obtain ⟨A1, m1, c1, e1, _, _, h⟩ := h
 injection e1 with e1 e2 e3
 subst e1; subst e2; subst e3
 rcases h with rfl | ⟨g, cur, rfl, h1, h3, h4⟩
 ·
  omega
 ·
  have hlt : k * 2 + 1 < cur.size := by omega
  exact ⟨g, cur, cur[k * 2], cur[k * 2 + 1], rfl, h1, h3, (blk_cell h3 _).trans (Array.getElem?_eq_getElem (by omega)), (blk_cell h3 _).trans (Array.getElem?_eq_getElem hlt), blk_frozen h3 _, blk_frozen h3 _⟩
theorem wr_of_R {α : Type} {d : Kd α} {e sz : Nat} {w : World} {base : Nat} {ok : Nat → Prop} {v : Value} {xs : List α} (h : d.R e w base ok v xs) (hs : d.sz = sz) (hm : xs.length ≤ 9223372036854775807) : Wr e sz ok w v := by
 obtain ⟨hok, inner, ho, _⟩ := h
 rcases ho.2 with ⟨rfl, h0⟩ | ⟨g, cap, cur, rfl, hb, hh, hnc, hcm, hcs, ht⟩
 ·
  exact ⟨none, 0, 0, rfl, Nat.le_refl _, Nat.zero_le _, .inl rfl⟩
 ·
  refine ⟨_, _, cap, rfl, hnc, hm, .inr ⟨g, cur, rfl, hok g rfl, hh, ?_⟩⟩
  rw [hcs, hs]
  exact Nat.mul_le_mul_right _ hnc
theorem row_cells {α : Type} {d : Kd α} {e : Nat} {w : World} {base : Nat} {ok : Nat → Prop} {A : Option Addr} {n c : Nat} {xs : List α} (h : d.R e w base ok (.slice A n c) xs) (hn : 0 < n) :
  ∃ g cur ok', A = some ⟨g, 0, none⟩ ∧ base ≤ g ∧ w.heap[g]? = some (.cells cur e (0, 0)) ∧ n = xs.length ∧ n * d.sz ≤ cur.size ∧ (∀ q, ok' q → ok q) ∧ ∀ i, i < n → ∃ x cs, xs[i]? = some x ∧ d.M w base ok' x cs ∧ ∀ j, j < d.sz → cur[i * d.sz + j]? = cs[j]? := by
 have hl := (Kd.R_reads' h).1
 subst hl
 obtain ⟨_, inner, ho, hr⟩ := h
 rcases ho.2 with ⟨hv, h0⟩ | ⟨g, cap, cur, hv, hb, hh, hnc, hcm, hcs, ht⟩
 ·
  omega
 ·
  injection hv with h1 h2 h3
  subst h1
  refine ⟨g, cur, (fun k => ok k ∧ some k ≠ (Value.slice (some ⟨g, 0, none⟩) xs.length c).ownBlock), rfl, hb, hh, rfl, by rw [hcs]; exact Nat.mul_le_mul_right _ hnc, fun q hq => hq.1, fun i hi => ?_⟩
  have hx : xs[i]? = some xs[i] := List.getElem?_eq_getElem hi
  have hM := hr.2 i _ hx
  refine ⟨xs[i], (inner.drop (i * d.sz)).take d.sz, hx, hM, fun j hj => ?_⟩
  rw [List.getElem?_take, if_pos hj, List.getElem?_drop, ← ht, List.getElem?_take]
  have : i * d.sz + j < xs.length * d.sz := by
   have : (i + 1) * d.sz ≤ xs.length * d.sz := Nat.mul_le_mul_right _ hi
   rw [Nat.add_mul] at this
   omega
  rw [if_pos this, Array.getElem?_toList]
structure SpR (F : Nat → Prop) (n : Nat) (f : Nat → Value) (g : Nat) (W : World) : Prop where
  out : ∃ cur, W.heap[g]? = some (.cells cur 36 (0, 0)) ∧ n * 40 ≤ cur.size ∧ ∀ i, i < n → cur[i * 40 + 2]? = some (f i)
  in1 : ∀ i, i < n → Wr 85 2 F W (f i)
  ge : F g
theorem SpR.set {F : Nat → Prop} {n : Nat} {f : Nat → Value} {g : Nat} {W : World} (h : SpR F n f g W) {g' : Nat} {cs : Array Value} (hb : W.heap[g']? = some (.cells cs 85 (0, 0))) (j : Nat) (u : Value) : SpR F n f g (W.setCell ⟨g', j, none⟩ u) := by
 obtain ⟨⟨cur, hc, hl, hf⟩, h1, h2⟩ := h
 exact ⟨⟨cur, blk_far hc (blk_ne hc hb (by decide)) u, hl, hf⟩, fun i hi => (h1 i hi).set hb j u, h2⟩
theorem SpR.setT {F : Nat → Prop} {n : Nat} {f : Nat → Value} {g : Nat} {W : World} (h : SpR F n f g W) (k : Nat) (u : Value) : SpR F n f g (W.setCell ⟨g, k * 40 + 3, none⟩ u) := by
 obtain ⟨⟨cur, hc, hl, hf⟩, h1, h2⟩ := h
 exact ⟨⟨_, blk_set hc _ u, by simpa using hl, fun i hi => by rw [Array.getElem?_setIfInBounds, if_neg (by omega)]; exact hf i hi⟩, fun i hi => (h1 i hi).set hc _ u, h2⟩
theorem SpR.cell {F : Nat → Prop} {n : Nat} {f : Nat → Value} {g : Nat} {W : World} (h : SpR F n f g W) (i : Nat) (hi : i < n) : W.cell? ⟨g, i * 40 + 2, none⟩ = some (f i) := by
 obtain ⟨cur, hc, _, hf⟩ := h.out
 exact (blk_cell hc _).trans (hf i hi)
theorem SpR.cell3 {F : Nat → Prop} {n : Nat} {f : Nat → Value} {g : Nat} {W : World} (h : SpR F n f g W) (i : Nat) (hi : i < n) : (∃ u, W.cell? ⟨g, i * 40 + 3, none⟩ = some u) ∧ W.frozen? ⟨g, i * 40 + 3, none⟩ = false := by
 obtain ⟨cur, hc, hl, _⟩ := h.out
 exact ⟨⟨cur[i * 40 + 3]'(by omega), (blk_cell hc _).trans (Array.getElem?_eq_getElem _)⟩, blk_frozen hc _⟩
theorem spR_of {w : World} {base : Nat} {ok : Nat → Prop} {A : Option Addr} {n c : Nat} {R : List Rd} (h : kRc.R 36 w base ok (.slice A n c) R) (hn : 0 < n) : ∃ g f, A = some ⟨g, 0, none⟩ ∧ SpR ok n f g w := by
 obtain ⟨g, cur, ok', rfl, hb, hh, rfl, hcs, hokg, hc⟩ := row_cells h hn
 have hv : ∀ i, i < R.length → ∃ v, cur[i * 40 + 2]? = some v ∧ Wr 85 2 ok w v := fun i hi => by
  obtain ⟨x, cs, _, ⟨hok, v, rfl, hR⟩, hj⟩ := hc i hi
  obtain ⟨_, _, _, _, hCx⟩ := Kd.R_reads hR
  refine ⟨v, (hj 2 (by show 2 < 40; decide)).trans ?_, wr_of_R (Kd.R_mono hR hokg) rfl (Kd.C_max hCx)⟩
  rw [Array.getElem?_toList]
  exact Rc.at2 _ _
 refine ⟨g, fun i => (cur[i * 40 + 2]?).getD undef, rfl, ⟨cur, hh, hcs, fun i hi => ?_⟩, fun i hi => ?_, h.1 g rfl⟩
 ·
  obtain ⟨v, hv, _⟩ := hv i hi
  rw [hv]
  rfl
 ·
  obtain ⟨v, hv, hw⟩ := hv i hi
  rw [hv]
  exact hw
set_option maxHeartbeats 8000000 in
set_option maxRecDepth 100000 in
theorem spoil_walk (base : Nat) (ok : Nat → Prop) (v : Value) (R : List Rd) (w : World) (hR : kRc.R 36 w base ok v R) :
  Calls Tryz.prog 28 #[v] w fun e w' => e = .returned (.tuple #[]) ∧ Chg ok w w' := by
 obtain ⟨A, c, rfl, hc, hC⟩ := Kd.R_reads hR
 have hmx := Kd.C_max hC
 rcases Nat.eq_zero_or_pos R.length with hz | hz
 ·
  rw [hz]
  go_enter Tryz.func28, Tryz.ntmps28
  go_wp2
  refine wp_loop_rounds 1 ?_
  rw [rounds_succ]
  go_wp2
  first | go_end0 | refine bodyPost_ret (results_none rfl _ _ _) rfl ?_
  exact ⟨rfl, Chg.refl _ _⟩
 ·
  obtain ⟨g, f, rfl, hS⟩ := spR_of hR hz
  generalize R.length = n at hS hmx hc ⊢
  have HS := Aside0.mk hS
  clear hS hC hR hz
  go_enter Tryz.func28, Tryz.ntmps28
  go_wp2
  go_loopw [2, 3] (fun v2 _ wr => ∃ i : Nat, i ≤ n ∧ v2 = .int .i64 i ∧ Aside0 (SpR ok n f g wr) ∧ Aside0 (Chg ok w wr)) (fun v2 _ _ => n - (intOf v2).toNat)
  case atStart => exact ⟨0, Nat.zero_le _, rfl, HS, ⟨Chg.refl _ _⟩⟩
  case round =>
   clear HS
   obtain ⟨i, hin, rfl, HS, HC⟩ := hrel
   by_cases hlt : i < n
   ·
    have b0 : decide ((i : Int) < (n : Int)) = true := decide_eq_true (by omega)
    have b1 : decide (i < n) = true := decide_eq_true hlt
    have p0 := eq_true (show (0 : Int) ≤ (i : Int) by omega)
    have q0 := eq_true (show (i : Int) < (n : Int) by omega)
    obtain ⟨A1, m1, c1, e1, hmc, hmm, _⟩ := HS.out.in1 i hlt
    have HE := Aside0.mk e1
    clear e1
    go_wp2
    go_loopw [3] (fun v3 ws => ∃ k : Nat, k ≤ m1 ∧ v3 = .int .i64 k ∧ Aside0 (SpR ok n f g ws) ∧ Aside0 (Chg ok w ws)) (fun v3 _ => m1 - (intOf v3).toNat)
    case atStart => exact ⟨0, Nat.zero_le _, rfl, HS, HC⟩
    case round =>
     clear HS HC
     obtain ⟨k, hk, rfl, HS, HC⟩ := hrel
     have hx := HS.out.cell i hlt
     rw [HE.out] at hx
     by_cases hkl : k < m1
     ·
      have b2 : decide ((k : Int) < (m1 : Int)) = true := decide_eq_true (by omega)
      have b3 : decide (k < m1) = true := decide_eq_true hkl
      have p1 := eq_true (show (0 : Int) ≤ (k : Int) by omega)
      have q1 := eq_true (show (k : Int) < (m1 : Int) by omega)
      obtain ⟨g1, cur, u1, u2, rfl, hg1, hcur, x1, x2, f1, f2⟩ := (HE.out ▸ HS.out.in1 i hlt).at2 k hkl
      go_wp2
      go_roundw
      case rel => exact ⟨k + 1, hkl, by go_num, ⟨(HS.out.set hcur _ _).set (blk_set hcur _ _) _ _⟩, ⟨(HC.out.trans (Chg.setCell (p := ⟨g1, k * 2, none⟩) hg1 _) (fun q hq => .inl hq)).trans (Chg.setCell (p := ⟨g1, k * 2 + 1, none⟩) hg1 _) (fun q hq => .inl hq)⟩⟩
      case measure => simp [intOf]; omega
     ·
      obtain rfl : k = m1 := by omega
      have b2 : decide ((k : Int) < (k : Int)) = false := decide_eq_false (by omega)
      have b3 : decide (k < k) = false := decide_eq_false hkl
      obtain ⟨⟨u3, x3⟩, f3⟩ := HS.out.cell3 i hlt
      go_wp2
      go_roundw
      case rel => exact ⟨i + 1, hlt, by go_num, ⟨HS.out.setT i _⟩, ⟨HC.out.trans (Chg.setCell (p := ⟨g, i * 40 + 3, none⟩) HS.out.ge _) (fun q hq => .inl hq)⟩⟩
      case measure => simp [intOf]; omega
   ·
    obtain rfl : i = n := by omega
    have b0 : decide ((i : Int) < (i : Int)) = false := decide_eq_false (by omega)
    have b1 : decide (i < i) = false := decide_eq_false hlt
    go_wp2
    first | go_end0 | refine bodyPost_ret (results_none rfl _ _ _) rfl ?_
    exact ⟨rfl, HC.out⟩
end Go.Proofs.YtefeibndnghejaaGreatDoor.Pr
end
