import Derived.RangeFuncNested
import Derived.RangeFuncBound
import Derived.RangeFuncCalls
import Derived.RangeFuncLeaves
import Derived.RangeFuncBox
import Derived.OrdersIn
import Derived.Deep.MidRow
import Derived.TacticsIn
import Derived.Test.YtefeibndnghejaaGreatDoorJn5
import Derived.Shelf.Abstract
import Derived.WalkKit
import Derived.OwnWalkIn
import Derived.TacticsInMore
import Derived.LoopNIn
import Derived.LoopIn
import Derived.Maps.AppendAt
import Derived.Shelf.RegionOpen
import Derived.Test.YtefeibndnghejaaGreatDoorJn9
import Derived.Test.YtefeibndnghejaaGreatDoorJn10
import Derived.Great.CaseRows
section
set_option linter.unusedVariables false
set_option linter.unusedSimpArgs false
namespace Go.Proofs.YtefeibndnghejaaGreatDoor.Pr
open Go Go.RowKit
def Gives {α : Type} (F : Fence) (n : Nat) (P : Program) (g : Nat) (lb : Array Value) (encs : α → Array Value) (Kp : World → World → Prop) (Pr : α → World → World → Prop) (S Sp : List α → Prop) (N : Nat) (w : World) : Prop :=
  ∀ (l : Nat) (J Jx : List α → World → Prop) (W : World), Below w.heap.size w W →
    (∀ pre x W0 W1, J pre W0 → Below W0.heap.size W0 W1 → Pr x W0 W1 → pre.length < N → YieldAt F (n - 1) P l (encs x) W1 fun e W' =>
      (e = .returned (.bool true) ∧ J (pre ++ [x]) W' ∧ Kp W1 W') ∨ (e = .returned (.bool false) ∧ Jx (pre ++ [x]) W')) →
    J [] W →
    CallsIn F n P g (#[.func (.yield l) #[] #[]] ++ lb) W fun e W' => (∃ v, e = .returned v) ∧ ((∃ xs, S xs ∧ J xs W') ∨ (∃ pre, Sp pre ∧ Jx pre W'))
variable {F : Fence} {n : Nat} {P : Program}
def RoundGoes {α : Type} (F : Fence) (n : Nat) (P : Program) (B : Nat) (Kp : World → World → Prop) (I : List α → World → Prop) (Ix : Code → List α → World → Prop) (assign body : Code) (tmps : Array Value) (l : Nat) (xs : List α) (W : World) : Prop :=
  assign.wpIn (F.inRound l) n P (Exit.then (fun a1 W1 => KeepsFrom B W W1 ∧ Kp W W1 ∧ ∀ r, body.wpIn (F.inRound l) n P (ownPostG B Kp I Ix xs (W1.putObj l (.loop r))) a1 (W1.putObj l (.loop r))) (fun _ _ _ => False)) { tmps := tmps, defers := [] } W
theorem range_gives {α : Type} {g : Operand} {ps : Array Tmp} {assign body : Code} {Q : Exit → Act → World → Prop} {a : Act} {w : World}
  (hro : F.round = none) (h1 : 1 ≤ n) {gf : Nat} {lb : Array Value} (hg : a.eval g = .func (.func gf) #[] lb) (hFg : F.fn gf) (eg : ∀ args w, (callFunc gf args).run P w = .ok (.enter gf args) w)
  {encs : α → Array Value} {Kp : World → World → Prop} {Pr : α → World → World → Prop} {S Sp : List α → Prop} {N : Nat} {w0 : World} (hseq : Gives F (n - 1) P gf lb encs Kp Pr S Sp N w0)
  (hKt : ∀ {A B C : World}, Kp A B → Kp B C → Kp A C) (hKb : ∀ (W : World) (l : Nat) (o o' : Obj), w.heap.size ≤ l → W.heap[l]? = some o → o.isCells = false → o.isWalk = false → Kp W (W.putObj l o'))
  (hb0 : Below w0.heap.size w0 w) (hps : ∀ x, (encs x).size = ps.size)
  (I : List α → World → Prop) (Ix : Code → List α → World → Prop) (hI : OwnFrom w.heap.size I) (hIx : ∀ c, OwnFrom w.heap.size (Ix c)) (h0 : I [] w)
  (hround : ∀ (l : Nat) (pre : List α) (x : α) (W0 W : World), w.heap.size < l → l < W0.heap.size → (∃ r, W.heap[l]? = some (.loop r)) → I pre W0 → Below W0.heap.size W0 W → Pr x W0 W → pre.length < N → RoundGoes F (n - 1 - 1) P w.heap.size Kp I Ix assign body ((ps.zip (encs x)).foldl (fun t (p, v) => t.setIfInBounds p v) a.tmps) l (pre ++ [x]) W)
  (hdone : ∀ (D : Nat) (xs : List α) (W : World), w.heap.size ≤ D → S xs → I xs W → W.heap[D]? = some (.deferred (some [])) → Q .normal { a with defers := { target := .collected D, args := #[] } :: a.defers } W)
  (hstop : ∀ (D : Nat) (c : Code) (pre : List α) (W : World), w.heap.size ≤ D → Sp pre → Ix c pre W → W.heap[D]? = some (.deferred (some [])) → c.wpIn F n P Q { a with defers := { target := .collected D, args := #[] } :: a.defers } W) :
  (Code.rangeFunc g ps assign body).wpIn F n P Q a w := by
 refine wpIn_rangeFunc (fun fn hfn => ?_)
 rw [hro]
 let D := w.heap.size
 let l := w.heap.size + 1
 let rec_ : LoopState → Option Code → Obj := fun st pe => .loop { state := st, pending := pe, fn, tmps := a.tmps, params := ps, assign, body, defers := D }
 let wl := (w.alloc (.deferred (some []))).alloc (rec_ .ready none)
 let Lies : LoopState → Option Code → World → Prop := fun st pe W => W.heap[l]? = some (rec_ st pe) ∧ W.heap[D]? = some (.deferred (some []))
 have hDl : D < l := Nat.lt_succ_self _
 have lies0 : Lies .ready none wl := by
  refine ⟨?_, (Below.heap_alloc _ _ _ (by simp [D])).trans (World.alloc_heap_new w _)⟩
  have h := World.alloc_heap_new (w.alloc (.deferred (some []))) (rec_ .ready none)
  rwa [World.size_alloc] at h
 have liesPut : ∀ {st st' pe pe' W}, Lies st pe W → Lies st' pe' (W.putObj l (rec_ st' pe')) := fun h =>
  ⟨World.putObj_heap_same (Array.getElem?_eq_some_iff.1 h.1).1, (World.putObj_heap_other (by omega)).trans h.2⟩
 have liesKeep : ∀ {st pe W W'}, Lies st pe W → KeepsFrom D W W' → Lies st pe W' := fun h k => ⟨k.same _ _ (Nat.le_of_lt hDl) h.1 rfl, k.same _ _ (Nat.le_refl _) h.2 rfl⟩
 have kpPut : ∀ {st pe W} (o' : Obj), Lies st pe W → Kp W (W.putObj l o') := fun o' h => hKb _ l _ o' (Nat.le_of_lt hDl) h.1 rfl rfl
 have hbl : Below w0.heap.size w0 wl := hb0.trans ((((Below.refl _ w).alloc (Nat.le_refl _) _).alloc (by simp) _).mono hb0.size)
 refine ⟨l, [{ target := .collected D, args := #[] }], wl, { target := .fn (.func gf) lb, args := #[.func (.yield l) #[] #[]] }, wl, gf, #[.func (.yield l) #[] #[]] ++ lb, wl, run_enterLoop_outer _ _ _ _ _, ?_, ?_, ?_, fun _ => h1, ?_⟩
 ·
  simp only [resolve, hg]
  simp [go_sem]
 ·
  intro f' hf'
  simp [Target.leads] at hf'
  subst hf'
  exact hFg
 ·
  simp [invoke, go_sem, eg]
 refine (hseq l (fun pre W => I pre W ∧ Lies .ready none W) (fun pre W => ∃ c, Ix c pre W ∧ Lies .done (some c) W) wl hbl
  ?_ ⟨hI.alloc _ (hI.alloc _ h0), lies0⟩).mono ?_
 ·
  rintro pre x W0 W ⟨hi, hl0⟩ hbW hpr hlen
  have hl : Lies .ready none W := ⟨(hbW.block l (Array.getElem?_eq_some_iff.1 hl0.1).1).trans hl0.1, (hbW.block D (Array.getElem?_eq_some_iff.1 hl0.2).1).trans hl0.2⟩
  refine ⟨fn, _, assign, body, run_yield (P := P) (args := encs x) hl.1 (hps x), roundIn_of_wpIn hfn (wpIn_mono (hround l pre x W0 W hDl (Array.getElem?_eq_some_iff.1 hl0.1).1 ⟨_, hl.1⟩ hi hbW hpr hlen) ?_)⟩
  rintro e a1 W1 hq
  cases e with
  | normal =>
   obtain ⟨hk1, hp1, hbody⟩ := hq
   have hl1 := liesKeep hl hk1
   refine ⟨W1.putObj l (rec_ .busy none), run_beginRound hl1.1 rfl, wpIn_mono (hbody _) ?_⟩
   have hl2 : Lies .busy none (W1.putObj l (rec_ .busy none)) := liesPut hl1
   have fin : ∀ (jump : Option Code) (W3 : World), KeepsFrom D (W1.putObj l (rec_ .busy none)) W3 →
     (Instr.endRound l jump).run P W3 = .ok (.bool jump.isNone) (W3.putObj l (rec_ (if jump.isNone then .ready else .done) jump)) ∧ Lies .busy none W3 := fun jump W3 hk3 =>
    ⟨run_endRound (P := P) jump (liesKeep hl2 hk3).1, liesKeep hl2 hk3⟩
   have out : ∀ (c : Code) (W3 : World), KeepsFrom D (W1.putObj l (rec_ .busy none)) W3 → Ix c (pre ++ [x]) W3 → ∃ v w', (Instr.endRound l (some c)).run P W3 = .ok v w' ∧
     ((Ending.returned v = .returned (.bool true) ∧ (I (pre ++ [x]) w' ∧ Lies .ready none w') ∧ Kp W w') ∨ (Ending.returned v = .returned (.bool false) ∧ ∃ c, Ix c (pre ++ [x]) w' ∧ Lies .done (some c) w')) := fun c W3 hk3 hx => by
    obtain ⟨hr, hl3⟩ := fin (some c) W3 hk3
    exact ⟨_, _, hr, .inr ⟨rfl, c, (hIx c).putObj _ hx (Nat.le_of_lt hDl) hl3.1 rfl, liesPut hl3⟩⟩
   rintro e2 a3 W3 hp
   cases e2 with
   | normal =>
    obtain ⟨hk3, hkp3, hi3⟩ := hp
    obtain ⟨hr, hl3⟩ := fin none W3 hk3
    exact ⟨_, _, hr, .inl ⟨rfl, ⟨hI.putObj _ hi3 (Nat.le_of_lt hDl) hl3.1 rfl, liesPut hl3⟩, hKt hp1 (hKt (kpPut _ hl1) (hKt hkp3 (kpPut _ hl3)))⟩⟩
   | ret => exact out _ _ hp.1 hp.2
   | exit id => exact out _ _ hp.1 hp.2
   | goto t => exact out _ _ hp.1 hp.2
   | panic ch => exact hp.elim
   | outgrown => exact hp.elim
  | exit id => exact hq.elim
  | goto t => exact hq.elim
  | ret => exact hq.elim
  | panic ch => exact hq.elim
  | outgrown => exact hq.elim
 ·
  rintro e W2 ⟨⟨v, rfl⟩, (⟨xs, hS, hi, hl⟩ | ⟨pre, hSp, c, hi, hl⟩)⟩
  ·
   exact ⟨none, _, run_endLoop (P := P) hl.1 (by simp), hdone D xs _ (Nat.le_refl _) hS (hI.putObj _ hi (Nat.le_of_lt hDl) hl.1 rfl) ((World.putObj_heap_other (by omega)).trans hl.2)⟩
  ·
   exact ⟨some c, _, run_endLoop (P := P) hl.1 (by simp), hstop D c pre _ (Nat.le_refl _) hSp ((hIx c).putObj _ hi (Nat.le_of_lt hDl) hl.1 rfl) ((World.putObj_heap_other (by omega)).trans hl.2)⟩
section
abbrev FR (rd : Option Nat) : Fence := { Fence.wide with round := rd }
variable {P : Program} {ops : Array Oper} {Q : Exit → Act → World → Prop} {K : Act → World → Prop} {a : Act} {w : World} {o : Oper}
theorem op_round (rd : Option Nat) (n : Nat) (hd : ∀ c, o.op ≠ Op.defer c) (h : o.wp P a w K Q) : o.wpIn (FR rd) n P a w K Q := by
 refine ⟨fun _ _ => trivial, ?_⟩
 rw [Oper.semAt_eq _ _ _ hd]
 unfold Oper.wp at h
 generalize (execOp a.eval o).run P w = r at h ⊢
 cases r with
 | ok x w' =>
  cases x with
  | value v => exact h
  | skip => exact h
  | defer d => exact h
  | enter f args => exact ⟨fun e => absurd (show (Fence.wide).depth.isSome = true from e) (by decide), (callsIn_wide (n := n - 1)).2 h⟩
  | row r args =>
   refine ⟨fun e => absurd (show (Fence.wide).depth.isSome = true from e) (by decide), fun c cs _ => ?_⟩
   obtain ⟨v, w2, hr, hs⟩ := h c cs
   exact ⟨v, w2, hr, stepsIn_wide.2 hs⟩
  | round _ _ _ _ _ => exact h.elim
  | _ => exact h.elim
 | halt x w' => cases x <;> exact h
def noDef (ops : Array Oper) : Bool := ops.all fun o => match o.op with | .defer _ => false | _ => true
theorem noDef_spec (h : noDef ops = true) : ∀ o ∈ ops.toList, ∀ c, o.op ≠ Op.defer c := by
 intro o ho c e
 obtain ⟨i, hlt, he⟩ := List.getElem_of_mem ho
 have := Array.all_eq_true.1 h i (by simpa using hlt)
 rw [Array.getElem_toList] at he
 rw [he, e] at this
 cases this
theorem list_round (rd : Option Nat) (n : Nat) (hq : ∀ a w, ¬ Q .outgrown a w) : ∀ (rest : List Oper) (a : Act) (w : World), (∀ o ∈ rest, ∀ c, o.op ≠ Op.defer c) → wpList P ops Q rest a w → wpListIn (FR rd) n P ops Q rest a w
 | [], a, w, _, h => h
 | o :: rest, a, w, hd, h => by
  have hd' : ∀ o ∈ rest, ∀ c, o.op ≠ Op.defer c := fun x hx => hd x (List.mem_cons_of_mem _ hx)
  unfold wpListIn
  unfold wpList at h
  split
  ·
   rename_i hw
   rw [if_pos hw] at h
   rcases h with h | ⟨_, b, w', h⟩
   ·
    exact Oper.wpIn_mono (fun a w => list_round rd n hq rest a w hd') (op_round rd n (hd o List.mem_cons_self) h)
   ·
    exact (hq _ _ h).elim
  ·
   rename_i hw
   rw [if_neg hw] at h
   exact ⟨fun _ _ => trivial, list_round rd n hq rest _ _ hd' h⟩
theorem region_round {id : Nat} {ls : List Oper} (rd : Option Nat) (n : Nat) (hq : ∀ a w, ¬ Q .outgrown a w) (hd : noDef ls.toArray = true) (h : wpList P ls.toArray Q ls a w) : (Code.region id ls.toArray false).wpIn (FR rd) n P Q a w :=
 wpIn_region_lit (list_round rd n hq ls a w (by simpa using noDef_spec hd) h)
theorem listIn_op {rest : List Oper} (rd : Option Nat) (n : Nat) (hg : o.guard = none) (hd : ∀ c, o.op ≠ Op.defer c) (h : ∀ K : Act → World → Prop, (∀ a w, wpListIn (FR rd) n P ops Q rest a w → K a w) → o.wp P a w K Q) : wpListIn (FR rd) n P ops Q (o :: rest) a w :=
 wpListIn_plain hg (fun K hK => op_round rd n hd (h K hK))
theorem listIn_load_row {rest : List Oper} (rd : Option Nat) (n : Nat) (hg : o.guard = none) (ty : TypeId) (x : Operand) (ho : o.op = .load ty x) (b : Nat) (hx : a.eval x = .pointer (some ⟨b, 0, none⟩)) (t : TypeId) (cs : Array Value) (fr : Nat × Nat) (d : TypeDesc) (hc : w.heap[b]? = some (.cells cs t fr))
  (hu : P.underlying ty = some d) (hr : (match d with | .struct _ | .array _ _ => true | _ => false) = true) (hi : (P.info? ty).map (·.size) = some cs.size) (h : wpListIn (FR rd) n P ops Q rest (a.put o.dst (.agg cs)) w) : wpListIn (FR rd) n P ops Q (o :: rest) a w :=
 listIn_op rd n hg (fun c e => by rw [ho] at e; cases e) (fun K hK => wp_load_row ty x ho b hx t cs fr d hc hu hr hi (hK _ _ h))
theorem listIn_load_mid {rest : List Oper} (rd : Option Nat) (n : Nat) (hg : o.guard = none) (ty : TypeId) (x : Operand) (ho : o.op = .load ty x) (b i : Nat) (hx : a.eval x = .pointer (some ⟨b, i, none⟩)) (cs : List Value) (d : TypeDesc) (hc : w.rangeAt b i cs)
  (hu : P.underlying ty = some d) (hr : d.isRow = true) (hi : (P.info? ty).map (·.size) = some cs.length) (h : wpListIn (FR rd) n P ops Q rest (a.put o.dst (.agg cs.toArray)) w) : wpListIn (FR rd) n P ops Q (o :: rest) a w :=
 listIn_op rd n hg (fun c e => by rw [ho] at e; cases e) (fun K hK => wp_load_mid ty x ho b i hx cs d hc hu hr hi (hK _ _ h))
end
end Go.Proofs.YtefeibndnghejaaGreatDoor.Pr
end
section
set_option linter.unusedVariables false
set_option linter.unusedSimpArgs false
namespace Go.Proofs.YtefeibndnghejaaGreatDoor.Pr
open Go.RowKit Go.Shelf Go.Proofs.YtefeibndnghejaaGreatDoorW.PrintWords Go.Proofs.YtefeibndnghejaaGreatDoorW.PrintLast Go.Proofs.YtefeibndnghejaaGreatDoorW.PrintMore
attribute [local go_sem] Oper.semAt_some
theorem all_in (F : Fence) (n : Nat) (hF : F.fn 31) (hro : F.round = none) (p : Option Addr) (w : World) :
  CallsIn F n Tryz.prog 31 #[.pointer p] w fun e w' => e = .returned (.func (.func 60) #[] #[.pointer (some ⟨w.heap.size, 0, none⟩)]) ∧ w' = w.alloc (.cells #[.pointer p] 23) := by
 refine callsIn_of_wp Tryz.func31 rfl hF ?_ hro
 simp only [Tryz.ntmps31, List.size_toArray, List.length_cons, List.length_nil, Nat.reduceAdd, Nat.reduceSub, Array.replicate_succ, Array.replicate_zero, List.push_toArray, List.append_toArray, List.nil_append, List.cons_append]
 gi_wp2
 go_ret
 exact ⟨rfl, rfl⟩
theorem all1_nil (F : Fence) (n : Nat) (hF : F.fn 60) (hro : F.round = none) (l Bs : Nat) (W : World) (hBs : W.cell? ⟨Bs, 0, none⟩ = some (.pointer none)) :
  CallsIn F n Tryz.prog 60 #[.func (.yield l) #[] #[], .pointer (some ⟨Bs, 0, none⟩)] W fun e W' => (∃ v, e = .returned v) ∧ W' = W := by
 refine callsIn_of_wp Tryz.func60 rfl hF ?_ hro
 simp only [Tryz.ntmps60, List.size_toArray, List.length_cons, List.length_nil, Nat.reduceAdd, Nat.reduceSub, Array.replicate_succ, Array.replicate_zero, List.push_toArray, List.append_toArray, List.nil_append, List.cons_append]
 gi_wp2
 refine bodyPost_ret (results_none rfl _ _ _) rfl ?_
 exact ⟨⟨_, rfl⟩, rfl⟩
end Go.Proofs.YtefeibndnghejaaGreatDoor.Pr
end
section
set_option linter.unusedVariables false
set_option linter.unusedSimpArgs false
namespace Go.Proofs.YtefeibndnghejaaGreatDoor.Pr
open Go.RowKit Go.Shelf Go.Proofs.YtefeibndnghejaaGreatDoorW.PrintWords Go.Proofs.YtefeibndnghejaaGreatDoorW.PrintLast Go.Proofs.YtefeibndnghejaaGreatDoorW.PrintMore
attribute [local go_sem] Oper.semAt_some
structure Rg where
  r : Rd
  A : Option Addr
  c : Nat
def Rg.val (x : Rg) : Array Value := x.r.x.cells (.slice x.A x.r.a.length x.c)
def Rg.args (x : Rg) : Array Value := #[.agg x.val]
def RgPr (R : List Rd) (x : Rg) (W0 W : World) : Prop := x.r ∈ R ∧ x.r.x.ok ∧ Kd.R k85 85 W W0.heap.size (fun q => W0.heap.size ≤ q) (.slice x.A x.r.a.length x.c) x.r.a
theorem rec_at {w : World} {A : Option Addr} {n : Nat} {R : List Rd} (h : Kd.C kRc w A n R) (k : Nat) (hk : k < R.length) : ∃ ad B c, A = some ad ∧ R[k].x.ok ∧ (∀ j u, (R[k].x.cells (.slice B R[k].a.length c)).toList[j]? = some u → w.cell? (ad.add (k * 40 + j)) = some u) ∧ R[k].a.length ≤ c ∧ Kd.C k85 w B R[k].a.length R[k].a := by
 obtain ⟨ad, e, hc⟩ := h.2.2 (by rw [h.1] at hk; omega)
 obtain ⟨cs, hl, ⟨ho, B, c, rfl, hcl, hC⟩, hcell⟩ := hc k R[k] (List.getElem?_eq_getElem hk)
 exact ⟨ad, B, c, e, ho, hcell, hcl, hC⟩
theorem R_addr {α : Type} {d : Kd α} {e base : Nat} {ok : Nat → Prop} {w : World} {ad : Addr} {n c : Nat} {xs : List α} (h : d.R e w base ok (.slice (some ad) n c) xs) : ∃ g, ad = ⟨g, 0, none⟩ := by
 obtain ⟨_, _, ⟨_, h2⟩, _⟩ := h
 rcases h2 with ⟨h2, _⟩ | ⟨g, cap, cur, h2, _⟩
 ·
  cases h2
 ·
  cases h2
  exact ⟨g, rfl⟩
set_option maxRecDepth 100000 in
set_option maxHeartbeats 4000000 in
theorem all1_gives (n : Nat) (hn : 1 ≤ n) (Bs g : Nat) (most ver : Int) (l m1 m2 : Value) (R : List Rd) (base : Nat) (ok : Nat → Prop) (w0 w : World) (hblk : w0.heap[g]? = some (.cells (stC most l m1 m2 ver) 81 (0, 0))) (hrec : kRc.R 36 w0 base ok l R) (hla : ∀ r ∈ R, r.a.length < 4398046511104)
  (hB : Below w0.heap.size w0 w) (hBs : w.cell? ⟨Bs, 0, none⟩ = some (.pointer (some ⟨g, 0, none⟩))) :
  Gives Fence.wide n Tryz.prog 60 #[.pointer (some ⟨Bs, 0, none⟩)] Rg.args (Below w0.heap.size) (RgPr R) (fun zs => zs.map Rg.r = R) (fun pre => pre.map Rg.r <+: R) R.length w := by
 intro lp J Jx W hW hY h0
 have hu36 := Tryz.underlying36
 obtain ⟨A, c, rfl, hlc, hC⟩ := Kd.R_reads hrec
 have hBW := hB.trans (hW.mono hB.size)
 have hbs : W.cell? ⟨Bs, 0, none⟩ = some (.pointer (some ⟨g, 0, none⟩)) := (hW.cell (World.block_lt_of_cell? w _ hBs)).trans hBs
 have hl1 : W.cell? ⟨g, 1, none⟩ = some (.slice A R.length c) := (blk_cell (blk_below hblk hBW) 1).trans rfl
 have HBW := Aside0.mk hBW
 have HRC := Aside0.mk hrec
 have HC := Aside0.mk hC
 have HLA := Aside0.mk hla
 have HY := Aside0.mk hY
 have HJ0 := Aside0.mk h0
 have HMX := Kd.C_max hC
 clear hBW hW hB hBs hblk hrec hC hY h0 hla hlc
 refine callsIn_of_wp Tryz.func60 rfl trivial ?_ rfl
 simp only [Tryz.ntmps60, List.size_toArray, List.length_cons, List.length_nil, Nat.reduceAdd, Nat.reduceSub, Array.replicate_succ, Array.replicate_zero, List.push_toArray, List.append_toArray, List.nil_append, List.cons_append]
 gi_wp2
 gi_loopw [12] (fun i wr => ∃ zs : List Rg, zs.length ≤ R.length ∧ zs.map Rg.r = R.take zs.length ∧ i = .int .i64 zs.length ∧ Aside0 (J zs wr) ∧ Aside0 (Below w0.heap.size w0 wr))
  (fun i _ => R.length - (intOf i).toNat)
 case atStart => exact ⟨[], Nat.zero_le _, rfl, rfl, HJ0, HBW⟩
 case round =>
  obtain ⟨zs, hk, hzs, rfl, HJ, HB⟩ := hrel
  by_cases hlt : zs.length < R.length
  ·
   obtain ⟨ad, B, cb, rfl, hok, hcell, hcb, hCa⟩ := rec_at HC.out zs.length hlt
   obtain ⟨gr, rfl⟩ := R_addr HRC.out
   have hbl : ((zs.length : Nat) : Int) < (R.length : Int) := by omega
   have hrow : wr.rangeAt gr (zs.length * 40) (R[zs.length].x.cells (.slice B R[zs.length].a.length cb)).toList := fun j u hu => by
    have h1 := hcell j u hu
    rw [Addr.add_mid, Nat.zero_add] at h1
    exact (HB.out.cell (World.block_lt_of_cell? w0 _ h1)).trans h1
   have hCw := Kd.C_below hCa HB.out
   obtain ⟨x, hx⟩ : ∃ x, x = R[zs.length] := ⟨_, rfl⟩
   have hlx : x.a.length < 4398046511104 := HLA.out x (by rw [hx]; exact List.getElem_mem hlt)
   rw [← hx] at hok hrow hcb hCw
   have hs := Rc.size hok (.slice B x.a.length cb)
   have h1c : (x.x.cells (.slice B x.a.length cb)).all (·.oneCell') = true := Rc.ones x.x rfl
   obtain ⟨cs, hcs⟩ : ∃ cs, cs = x.x.cells (.slice B x.a.length cb) := ⟨_, rfl⟩
   rw [← hcs] at hrow hs h1c
   have HCS := Aside0.mk hcs
   have HROW := Aside0.mk hrow
   have HCB := Aside0.mk hcb
   have HCW := Aside0.mk hCw
   have HOK := Aside0.mk hok
   have HX := Aside0.mk hx
   have HLX := Aside0.mk hlx
   have H1C := Aside0.mk h1c
   have HZS := Aside0.mk hzs
   clear hcell hCa hcs hrow hcb hCw hok hx hlx h1c hzs
   gi_wp2_with (refine listIn_load_mid none n rfl 36 (.tmp 14) rfl gr (zs.length * 40) rfl cs.toList _ HROW.out hu36 rfl (by rw [Array.length_toList, hs]; kernel_rfl) (Aside0.out ?_))
   refine ⟨?_⟩
   refine list_round none n (fun a w h => ?_) _ _ _ (noDef_spec (ops := #[_, _]) (by kernel_rfl)) ?_
   ·
    obtain ⟨⟨v, e⟩, _⟩ := h
    cases e
   go_wp2_with (refine wpList_store_rowTo rfl 36 (.tmp 4) (.tmp 15) rfl rfl wr.heap.size cs rfl rfl 36 z36 (blk_new wr (.cells z36 36)) (by rw [hs]; kernel_rfl) (by rw [hs]; rfl) H1C.out (Aside0.out ?_))
   refine ⟨?_⟩
   have HW : Aside0 (((wr.alloc (.cells z36 36)).setRow wr.heap.size cs).heap[wr.heap.size]? = some (.cells cs 36 (0, 0)) ∧ Below wr.heap.size wr ((wr.alloc (.cells z36 36)).setRow wr.heap.size cs)) :=
    ⟨blk_setRow (blk_new wr _), below_setRow (below_alloc (Below.refl _ _) _) (Nat.le_refl _) _⟩
   obtain ⟨W1, hW1⟩ : ∃ W1, W1 = (wr.alloc (.cells z36 36)).setRow wr.heap.size cs := ⟨_, rfl⟩
   rw [← hW1] at HW
   unfold z36 at hW1
   rw [← hW1]
   clear hW1
   refine wpList_nil ?_
   gi_wp2_with (first | (refine listIn_load_row none n rfl 36 (.tmp 4) rfl wr.heap.size rfl 36 cs (0, 0) _ HW.out.1 hu36 rfl (by rw [hs]; kernel_rfl) (Aside0.out ?_); refine ⟨?_⟩) | (refine ⟨trivial, ?_⟩; gi_at_call 61; change CallsIn Fence.wide _ _ _ _ _ _))
   refine (callsIn_wide.2 (HCS.out ▸ own_walk x.x HOK.out B cb x.a W1 (Kd.C_below HCW.out HW.out.2) HCB.out HLX.out)).mono ?_
   rintro e w2 ⟨A', c', rfl, hR2, hb2⟩
   have hb02 : Below wr.heap.size wr w2 := below_step HW.out.2 hb2
   have hpr : RgPr R ⟨x, A', c'⟩ wr w2 := ⟨by rw [HX.out]; exact List.getElem_mem hlt, HOK.out, Kd.R_mono (Kd.R_lower (Kd.R_bound hR2) HW.out.2.size) (fun q hq => Nat.le_trans HW.out.2.size hq.2.1)⟩
   obtain ⟨fn, tmps, assign, body, hy, hRd⟩ := HY.out zs ⟨x, A', c'⟩ wr w2 HJ.out hb02 hpr hlt
   have HB02 := Aside0.mk hb02
   have HRD := Aside0.mk hRd
   have hw : wrap64 ((zs.length : Int) + 1) = (zs.length : Int) + 1 := by unfold wrap64; omega
   simp only [Rg.args, Rg.val] at hy
   clear hR2 hb2 hpr hb02 hRd
   gi_wp2
   have htk : R.take (zs ++ [(⟨x, A', c'⟩ : Rg)]).length = R.take zs.length ++ [x] := by
    rw [List.length_append, List.length_singleton, List.take_succ_eq_append_getElem hlt, ← HX.out]
   have HTK := Aside0.mk htk
   clear htk
   refine (show RoundIn Fence.wide (n - 1) Tryz.prog lp fn tmps assign body w2 _ from HRD.out).mono ?_
   rintro e W3 (⟨rfl, hJ3, hk3⟩ | ⟨rfl, hJx3⟩)
   ·
    have HB3 := Aside0.mk ((HB.out.trans (HB02.out.mono HB.out.size)).trans hk3)
    have HJ3 := Aside0.mk hJ3
    clear hk3 hJ3
    gi_wp2
    go_roundw
    case rel => exact ⟨zs ++ [⟨x, A', c'⟩], by simp; omega, by rw [HTK.out, List.map_append, HZS.out]; rfl, by simp [hw], HJ3, HB3⟩
    case measure => simp [intOf, hw]; omega
   ·
    have HJx := Aside0.mk hJx3
    clear hJx3
    gi_wp2
    refine bodyPost_ret (results_none rfl _ _ _) rfl ?_
    exact ⟨⟨_, rfl⟩, .inr ⟨_, ⟨R.drop (zs ++ [(⟨x, A', c'⟩ : Rg)]).length, by rw [List.map_append, HZS.out, List.map_singleton, ← HTK.out]; exact List.take_append_drop _ _⟩, HJx.out⟩⟩
  ·
   have hkl : zs.length = R.length := by omega
   have hz : ¬ (zs.length : Int) < (R.length : Int) := by omega
   gi_wp2
   go_end0
   exact ⟨⟨_, rfl⟩, .inl ⟨zs, by rw [hzs, hkl]; exact List.take_length, HJ.out⟩⟩
end Go.Proofs.YtefeibndnghejaaGreatDoor.Pr
end
section
set_option linter.unusedVariables false
set_option linter.unusedSimpArgs false
namespace Go.Proofs.YtefeibndnghejaaGreatDoor.Pr
open Go.RowKit Go.Shelf Go.Proofs.YtefeibndnghejaaGreatDoorW.PrintWords Go.Proofs.YtefeibndnghejaaGreatDoorW.PrintLast Go.Proofs.YtefeibndnghejaaGreatDoorW.PrintMore
attribute [local go_sem] Oper.semAt_some
def countK (kind : Int) (R : List Rd) : Nat := (R.filter fun r => decide (kind = 0 ∨ r.x.kd = kind)).length
theorem recBox (W : World) (cs : Array Value) : ((W.alloc (.cells z36 36)).setRow W.heap.size cs).heap[W.heap.size]? = some (.cells cs 36 (0, 0)) ∧ Below W.heap.size W ((W.alloc (.cells z36 36)).setRow W.heap.size cs) :=
 ⟨blk_setRow (blk_new W _), below_setRow (below_alloc (Below.refl _ _) _) (Nat.le_refl _) _⟩
theorem keeps_of_below {B : Nat} {W W1 : World} (h : Below W.heap.size W W1) : KeepsFrom B W W1 := ⟨h.size, fun k o _ hk _ => (h.block k (Array.getElem?_eq_some_iff.1 hk).1).trans hk⟩
theorem blk_put {W : World} {k l : Nat} {o o' : Obj} (h : W.heap[k]? = some o) (hne : k ≠ l) : (W.putObj l o').heap[k]? = some o := (World.putObj_heap_other hne).trans h
theorem exec_alloc36 {ρ : Operand → Value} {o : Oper} (ho : o.op = .alloc 36) (W : World) : (execOp ρ o).run Tryz.prog W = .ok (.value (.pointer (some ⟨W.heap.size, 0, none⟩))) (W.alloc (.cells z36 36)) := by
 unfold execOp
 rw [ho]
 go_simp
 rfl
theorem assign_box {p q id n : Nat} {o1 o2 : Oper} (lr : Nat) {Q : Exit → Act → World → Prop} (hq : ∀ a w, ¬ Q .outgrown a w) (h1 : o1.op = .alloc 36) (h1d : o1.dst = some p) (h1g : o1.guard = none) (h2 : o2.op = .store 36 (.tmp p) (.tmp q)) (h2d : o2.dst = none) (h2g : o2.guard = none)
  {a : Act} {W : World} {cs : Array Value} (hs : cs.size = 40) (h1c : cs.all (·.oneCell') = true) (hp : (a.put (some p) (.pointer (some ⟨W.heap.size, 0, none⟩))).eval (.tmp p) = .pointer (some ⟨W.heap.size, 0, none⟩)) (hv : (a.put (some p) (.pointer (some ⟨W.heap.size, 0, none⟩))).eval (.tmp q) = .agg cs)
  (h : Q .normal (a.put (some p) (.pointer (some ⟨W.heap.size, 0, none⟩))) ((W.alloc (.cells z36 36)).setRow W.heap.size cs)) : (Code.region id #[o1, o2] false).wpIn (Fence.wide.inRound lr) n Tryz.prog Q a W := by
 refine region_round (some lr) _ hq (by simp [noDef, h1, h2]) ?_
 refine wpList_plain h1g (fun K hK => ?_)
 unfold Oper.wp
 rw [exec_alloc36 h1, Oper.upon_value, h1d]
 refine hK _ _ ?_
 exact wpList_store_rowTo h2g 36 (.tmp p) (.tmp q) h2 h2d W.heap.size cs hp hv 36 z36 (blk_new W (.cells z36 36)) (by rw [hs]; kernel_rfl) (by rw [hs]; rfl) h1c h
theorem zip_one (q : Nat) (x : Rg) (t : Array Value) : (#[q].zip x.args).foldl (fun t (p, v) => t.setIfInBounds p v) t = t.setIfInBounds q (.agg x.val) := by simp [Rg.args]
def LI (w : World) (kind : Int) (pre : List Rg) (W : World) : Prop := (Boxed W w.heap.size 3 (.int .i64 kind) ∧ Boxed W (w.heap.size + 1) 3 (.int .i64 (countK kind (pre.map Rg.r)))) ∧ Below w.heap.size w W
theorem LI_own (w : World) (kind : Int) (B : Nat) (hB : w.heap.size ≤ B) : OwnFrom B (LI w kind) :=
 OwnFrom.and (OwnFrom.and (Own.from (boxed_own _ 3 (fun _ => .int .i64 kind)) _) (Own.from (boxed_own _ 3 (fun pre : List Rg => .int .i64 (countK kind (pre.map Rg.r)))) _)) (ownFrom_below (Nat.le_refl _) hB)
end Go.Proofs.YtefeibndnghejaaGreatDoor.Pr
end
section
set_option linter.unusedVariables false
set_option linter.unusedSimpArgs false
namespace Go.Proofs.YtefeibndnghejaaGreatDoor.Pr
open Go.RowKit Go.Proofs.YtefeibndnghejaaGreatDoorW.PrintWords Go.Proofs.YtefeibndnghejaaGreatDoorW.PrintLast Go.Proofs.YtefeibndnghejaaGreatDoorW.PrintMore
theorem wpList_buildRec {ops : Array Oper} {rest : List Oper} {o : Oper} {a : Act} {w : World} {Q : Exit → Act → World → Prop} (n : Nat) (hg : o.guard = none) (ho : o.op = .buildSlice 29 1 #[(0, .tmp n)])
  (dst : Option Tmp) (hdst : o.dst = dst) {cs : Array Value} (hs : cs.size = 40) (hx : a.eval (.tmp n) = .agg cs)
  (h : wpList Tryz.prog ops Q rest (a.put dst (.slice (some ⟨w.heap.size, 0, none⟩) 1 1)) (w.alloc (.cells cs 36))) : wpList Tryz.prog ops Q (o :: rest) a w := by
 refine Go.Great.wpList_buildRows hg 29 36 #[(0, .tmp n)] 40 [.agg cs] ho (fun _ => n) _ rfl dst hdst Tryz.underlying29 (by kernel_rfl) (by kernel_rfl) (by omega) (by simp) (by simp) rfl (fun v hv => by rw [List.mem_singleton.1 hv]; exact hs) (fun i hi => ?_) ?_
 ·
  match i, hi with
  | 0, _ => exact hx
 ·
  have e : ([Value.agg cs].flatMap fun v => v.cells.toList).toArray = cs := by simp [Value.cells]
  rw [e]
  exact h
end Go.Proofs.YtefeibndnghejaaGreatDoor.Pr
end
section
set_option linter.unusedVariables false
set_option linter.unusedSimpArgs false
namespace Go.Proofs.YtefeibndnghejaaGreatDoor.Pr
open Go.RowKit Go.Proofs.YtefeibndnghejaaGreatDoorW.PrintWords Go.Proofs.YtefeibndnghejaaGreatDoorW.PrintLast Go.Proofs.YtefeibndnghejaaGreatDoorW.PrintMore
def Wr (e sz : Nat) (F : Nat → Prop) (W : World) (v : Value) : Prop := ∃ A m c, v = .slice A m c ∧ m ≤ c ∧ m ≤ 9223372036854775807 ∧ (m = 0 ∨ ∃ g cur, A = some ⟨g, 0, none⟩ ∧ F g ∧ W.heap[g]? = some (.cells cur e (0, 0)) ∧ m * sz ≤ cur.size)
theorem Wr.set {e sz : Nat} {F : Nat → Prop} {W : World} {v : Value} (h : Wr e sz F W v) {g t : Nat} {cs : Array Value} (hb : W.heap[g]? = some (.cells cs t (0, 0))) (j : Nat) (u : Value) : Wr e sz F (W.setCell ⟨g, j, none⟩ u) v := by
 obtain ⟨A, m, c, rfl, hc, hm, h⟩ := h
 refine ⟨A, m, c, rfl, hc, hm, ?_⟩
 rcases h with rfl | ⟨g1, cur, rfl, h1, h3, h4⟩
 ·
  exact .inl rfl
 ·
  by_cases hg : g1 = g
  ·
   subst hg
   rw [hb] at h3
   injection h3 with h3
   injection h3 with h5 h6
   subst h5; subst h6
   exact .inr ⟨g1, _, rfl, h1, blk_set hb j u, by simpa using h4⟩
  ·
   exact .inr ⟨g1, cur, rfl, h1, blk_far h3 (by simpa using hg) u, h4⟩
structure SpR (F : Nat → Prop) (n : Nat) (f : Nat → Value) (g : Nat) (W : World) : Prop where
  out : ∃ cur, W.heap[g]? = some (.cells cur 36 (0, 0)) ∧ n * 40 ≤ cur.size ∧ ∀ i, i < n → cur[i * 40 + 2]? = some (f i)
  in1 : ∀ i, i < n → Wr 85 2 F W (f i)
  ge : F g
theorem SpR.set {F : Nat → Prop} {n : Nat} {f : Nat → Value} {g : Nat} {W : World} (h : SpR F n f g W) {g' : Nat} {cs : Array Value} (hb : W.heap[g']? = some (.cells cs 85 (0, 0))) (j : Nat) (u : Value) : SpR F n f g (W.setCell ⟨g', j, none⟩ u) := by
 obtain ⟨⟨cur, hc, hl, hf⟩, h1, h2⟩ := h
 exact ⟨⟨cur, blk_far hc (blk_ne hc hb (by decide)) u, hl, hf⟩, fun i hi => (h1 i hi).set hb j u, h2⟩
theorem SpR.setT {F : Nat → Prop} {n : Nat} {f : Nat → Value} {g : Nat} {W : World} (h : SpR F n f g W) (k : Nat) (u : Value) : SpR F n f g (W.setCell ⟨g, k * 40 + 3, none⟩ u) := by
 obtain ⟨⟨cur, hc, hl, hf⟩, h1, h2⟩ := h
 exact ⟨⟨_, blk_set hc _ u, by simpa using hl, fun i hi => by rw [Array.getElem?_setIfInBounds, if_neg (by omega)]; exact hf i hi⟩, fun i hi => (h1 i hi).set hc _ u, h2⟩
theorem SpR.cell {F : Nat → Prop} {n : Nat} {f : Nat → Value} {g : Nat} {W : World} (h : SpR F n f g W) (i : Nat) (hi : i < n) : W.cell? ⟨g, i * 40 + 2, none⟩ = some (f i) := by
 obtain ⟨cur, hc, _, hf⟩ := h.out
 exact (blk_cell hc _).trans (hf i hi)
end Go.Proofs.YtefeibndnghejaaGreatDoor.Pr
end
section
set_option linter.unusedVariables false
set_option linter.unusedSimpArgs false
namespace Go.Proofs.YtefeibndnghejaaGreatDoor.Pr
open Go.RowKit Go.Shelf Go.Proofs.YtefeibndnghejaaGreatDoorW.PrintWords Go.Proofs.YtefeibndnghejaaGreatDoorW.PrintLast Go.Proofs.YtefeibndnghejaaGreatDoorW.PrintMore
attribute [local go_sem] Oper.semAt_some
theorem R_other {α : Type} {d : Kd α} {e : Nat} {W W' : World} {base : Nat} {ok : Nat → Prop} {v : Value} {xs : List α} (h : d.R e W base ok v xs) {row : Option Nat} (hg : W.grownBy W' row) (hr : ∀ r, row = some r → ∃ o : Obj, W.heap[r]? = some o ∧ o.isCells = false) : d.R e W' base ok v xs :=
 Kd.R_mono (Kd.R_grown (Kd.R_bound h) hg (fun k hk e => by
  obtain ⟨_, _, _, q, _, cells, hc⟩ := hk
  obtain ⟨o, ho, hn⟩ := hr k e.symm
  rw [hc] at ho
  cases ho
  cases hn)) (fun k hk => hk.1)
theorem R_put {α : Type} {d : Kd α} {e : Nat} {W : World} {base : Nat} {ok : Nat → Prop} {v : Value} {xs : List α} (h : d.R e W base ok v xs) {l : Nat} {o : Obj} (hl : W.heap[l]? = some o) (ho : o.isCells = false) (o' : Obj) : d.R e (W.putObj l o') base ok v xs :=
 R_other h (grownBy_putObj' W l o') (fun r e => by cases e; exact ⟨o, hl, ho⟩)
theorem keeps_chg {B : Nat} {F : Nat → Prop} {W W' : World} (h : Chg F W W') (hF : ∀ q, F q → ∃ cs t fr, W.heap[q]? = some (.cells cs t fr)) : KeepsFrom B W W' :=
 ⟨h.size, fun k o _ hk ho => (h.block k (Array.getElem?_eq_some_iff.1 hk).1 (fun e => by
  obtain ⟨cs, t, fr, hc⟩ := hF k e
  rw [hc] at hk
  cases hk
  cases ho)).trans hk⟩
structure AB (w : World) (g : Nat) (pre : List Rg) (x : Rg) (lo hi bx : Nat) (v : Value) (W : World) : Prop where
  out : W.heap[w.heap.size]? = some (.cells #[v] 29 (0, 0))
  all : Boxed W (w.heap.size + 1) 23 (.pointer (some ⟨g, 0, none⟩))
  rows : kRc.R 36 W w.heap.size (fun q => w.heap.size + 1 < q ∧ (q < lo ∨ hi ≤ q)) v (pre.map Rg.r)
  box : W.heap[bx]? = some (.cells x.val 36 (0, 0))
  ok : x.r.x.ok
  attrs : Kd.R k85 85 W lo (fun q => lo ≤ q ∧ q < hi) (.slice x.A x.r.a.length x.c) x.r.a
  bel : Below w.heap.size w W
  lt : w.heap.size + 1 < lo
  le : lo ≤ hi
  eq : bx + 1 = hi
  len : pre.length < 1048576
theorem AB.kept {w : World} {g : Nat} {pre : List Rg} {x : Rg} {lo hi bx : Nat} {v : Value} {W W' : World} (h : AB w g pre x lo hi bx v W) (hb : Below W.heap.size W W') : AB w g pre x lo hi bx v W' :=
 ⟨blk_below h.out hb, boxed_below h.all hb, Kd.R_below h.rows hb, blk_below h.box hb, h.ok, Kd.R_below h.attrs hb, h.bel.trans (hb.mono h.bel.size), h.lt, h.le, h.eq, h.len⟩
end Go.Proofs.YtefeibndnghejaaGreatDoor.Pr
end
section
set_option linter.unusedVariables false
set_option linter.unusedSimpArgs false
namespace Go.Proofs.YtefeibndnghejaaGreatDoor.Pr
open Go.RowKit Go.Shelf Go.Proofs.YtefeibndnghejaaGreatDoorW.PrintWords Go.Proofs.YtefeibndnghejaaGreatDoorW.PrintLast Go.Proofs.YtefeibndnghejaaGreatDoorW.PrintMore
attribute [local go_sem] Oper.semAt_some
def SI (w : World) (fv : Value) (p : Rd → Bool) (pre : List Rg) (W : World) : Prop := ((∃ v, Boxed W (w.heap.size + 1) 29 v ∧ kRc.R 36 W w.heap.size (fun q => w.heap.size + 2 < q) v ((pre.map Rg.r).filter p)) ∧ Boxed W w.heap.size 72 fv) ∧ Below w.heap.size w W
theorem SI_own (w : World) (fv : Value) (p : Rd → Bool) (B : Nat) (hB : w.heap.size ≤ B) : OwnFrom B (SI w fv p) :=
 OwnFrom.and (OwnFrom.and (fun pre W W' row ⟨v, hv, hr⟩ hg hrow => ⟨v, hv.kept hg (fun e => by
   obtain ⟨_, o, ho, hn⟩ := hrow _ e.symm
   rw [show W.heap[w.heap.size + 1]? = _ from hv] at ho
   cases ho
   cases hn), R_other hr hg (fun r e => (hrow r e).2)⟩) (Own.from (boxed_own _ 72 (fun _ => fv)) _)) (ownFrom_below (Nat.le_refl _) hB)
structure SB (w : World) (fv : Value) (p : Rd → Bool) (pre : List Rg) (x : Rg) (lo hi bx : Nat) (v : Value) (W : World) : Prop where
  fb : Boxed W w.heap.size 72 fv
  out : W.heap[w.heap.size + 1]? = some (.cells #[v] 29 (0, 0))
  rows : kRc.R 36 W w.heap.size (fun q => w.heap.size + 2 < q ∧ (q < lo ∨ hi ≤ q)) v ((pre.map Rg.r).filter p)
  box : W.heap[bx]? = some (.cells x.val 36 (0, 0))
  ok : x.r.x.ok
  attrs : Kd.R k85 85 W lo (fun q => lo ≤ q ∧ q < hi) (.slice x.A x.r.a.length x.c) x.r.a
  bel : Below w.heap.size w W
  lt : w.heap.size + 2 < lo
  le : lo ≤ hi
  eq : bx + 1 = hi
  len : pre.length < 1048576
theorem SB.kept {w : World} {fv : Value} {p : Rd → Bool} {pre : List Rg} {x : Rg} {lo hi bx : Nat} {v : Value} {W W' : World} (h : SB w fv p pre x lo hi bx v W) (hb : Below W.heap.size W W') : SB w fv p pre x lo hi bx v W' :=
 ⟨boxed_below h.fb hb, blk_below h.out hb, Kd.R_below h.rows hb, blk_below h.box hb, h.ok, Kd.R_below h.attrs hb, h.bel.trans (hb.mono h.bel.size), h.lt, h.le, h.eq, h.len⟩
set_option maxRecDepth 100000 in
set_option maxHeartbeats 8000000 in
theorem some_walk (fi : FuncId) (caps : Array Value) (p : Rd → Bool) (srt : List Rd → List Rd) (g : Nat) (most ver : Int) (l m1 m2 : Value) (R : List Rd) (base : Nat) (ok : Nat → Prop) (w : World) (hblk : w.heap[g]? = some (.cells (stC most l m1 m2 ver) 81 (0, 0))) (hrec : kRc.R 36 w base ok l R) (hfi : ∀ r ∈ R, r.fine) (hR : R.length < 1048576)
  (eg : ∀ args w, (callFunc fi args).run Tryz.prog w = .ok (.enter fi args) w)
  (hwant : ∀ (x : Rg) (W : World), Below w.heap.size w W → x.r ∈ R → x.r.x.ok → Kd.C k85 W x.A x.r.a.length x.r.a → x.r.a.length ≤ x.c → Calls Tryz.prog fi (#[.agg x.val] ++ caps) W fun e w' => e = .returned (.bool (p x.r)) ∧ Below W.heap.size W w')
  (hsort : ∀ (v : Value) (W : World) (ok' : Nat → Prop), w.heap.size ≤ W.heap.size → kRc.R 36 W w.heap.size ok' v (R.filter p) → Calls Tryz.prog 67 #[v, .func (.func 68) #[] #[]] W fun e w' => e = .returned (.tuple #[]) ∧ kRc.R 36 w' w.heap.size ok' v (srt (R.filter p)) ∧ Chg ok' W w') :
  Calls Tryz.prog 36 #[.pointer (some ⟨g, 0, none⟩), .func (.func fi) #[] caps] w fun e w' => ∃ v, e = .returned v ∧ kRc.R 36 w' w.heap.size (fun _ => True) v (srt (R.filter p)) ∧ Below w.heap.size w w' := by
 have hla : ∀ r ∈ R, r.a.length < 4398046511104 := fun r hr => by have := (hfi r hr).al; omega
 have HBLK := Aside0.mk hblk
 have HREC := Aside0.mk hrec
 have HLA := Aside0.mk hla
 have HFI := Aside0.mk hfi
 have HRL := Aside0.mk hR
 have HWT := Aside0.mk hwant
 have HSO := Aside0.mk hsort
 have hu36 := Tryz.underlying36
 clear hblk hrec hla hR hfi hwant hsort
 refine (callsIn_wide (n := 5)).1 ?_
 refine callsIn_of_wp_marks Tryz.func36 rfl trivial ?_ rfl
 simp only [Tryz.ntmps36, List.size_toArray, List.length_cons, List.length_nil, Nat.reduceAdd, Nat.reduceSub, Array.replicate_succ, Array.replicate_zero, List.push_toArray, List.append_toArray, List.nil_append, List.cons_append]
 gi_wp2_with (refine ⟨trivial, ?_⟩; gi_at_call 31; refine (all_in Fence.wide _ trivial rfl _ _).mono ?_; rintro e w' ⟨rfl, rfl⟩)
 have bF := Boxed.new w 72 (.func (.func fi) #[] caps)
 have bO := Boxed.new (w.alloc (.cells #[.func (.func fi) #[] caps] 72)) 29 (.slice none 0 0)
 have bG := Boxed.new ((w.alloc (.cells #[.func (.func fi) #[] caps] 72)).alloc (.cells #[.slice none 0 0] 29)) 23 (.pointer (some ⟨g, 0, none⟩))
 simp only [World.size_alloc] at bG bO
 have hB0 : Below w.heap.size w (((w.alloc (.cells #[.func (.func fi) #[] caps] 72)).alloc (.cells #[.slice none 0 0] 29)).alloc (.cells #[.pointer (some ⟨g, 0, none⟩)] 23)) := below_alloc (below_alloc (below_alloc (Below.refl _ _) _) _) _
 refine range_gives (F := Fence.wide) rfl (by omega) (gf := 60) (lb := #[.pointer (some ⟨w.heap.size + 1 + 1, 0, none⟩)]) rfl trivial (enters_of Tryz.func60 (by kernel_rfl) rfl)
  (all1_gives _ (by omega) (w.heap.size + 1 + 1) g most ver l m1 m2 R base ok w _ HBLK.out HREC.out HLA.out hB0 bG.cell) belowK_t (belowK_b (by simp; omega)) (Below.refl _ _) (fun _ => rfl)
  (SI w (.func (.func fi) #[] caps) p) (fun _ _ _ => False) (SI_own w _ p _ (by simp; omega)) (fun _ _ _ _ _ hs _ _ => hs) ⟨⟨⟨_, bO.alloc _, Kd.R_nil _ _ _ _ _⟩, (bF.alloc _).alloc _⟩, hB0⟩ ?round ?done ?stop
 case stop =>
  rintro D c pre W _ _ h _
  exact h.elim
 case round =>
  rintro lr pre x W0 W hl1 hl0 ⟨rr, hl2⟩ ⟨⟨⟨v, hv, hr⟩, hfb⟩, hbel⟩ hbW ⟨hmem, hok, hpa⟩ hlen
  have hs : x.val.size = 40 := Rc.size hok _
  have h1c : x.val.all (·.oneCell') = true := Rc.ones x.r.x rfl
  simp only [World.size_alloc] at hl1
  have hlt : w.heap.size + 2 < W0.heap.size := by omega
  have hbx := recBox W x.val
  have hb1 : Below W.heap.size W ((W.alloc (.cells z36 36)).setRow W.heap.size x.val) := hbx.2
  have hAB : SB w (.func (.func fi) #[] caps) p pre x W0.heap.size (W.heap.size + 1) W.heap.size v ((W.alloc (.cells z36 36)).setRow W.heap.size x.val) := by
   refine ⟨boxed_below (boxed_below hfb hbW) hb1, boxed_below (boxed_below hv hbW) hb1, Kd.R_below (Kd.R_below (Kd.R_mono (Kd.R_bound hr) (fun q hq => ⟨hq.1, .inl hq.2.2.1⟩)) hbW) hb1, hbx.1, hok, Kd.R_below (Kd.R_mono (Kd.R_bound hpa) (fun q hq => ⟨hq.1, Nat.lt_succ_of_lt hq.2.2.1⟩)) hb1, (hbel.trans (hbW.mono hbel.size)).trans (hb1.mono (by have := hbel.size; have := hbW.size; omega)), hlt, Nat.le_succ_of_le hbW.size, rfl, by have := HRL.out; omega⟩
  unfold RoundGoes
  generalize ((((w.alloc (.cells #[.func (.func fi) #[] caps] 72)).alloc (.cells #[.slice none 0 0] 29)).alloc (.cells #[.pointer (some ⟨g, 0, none⟩)] 23)).heap.size) = B
  rw [zip_one]
  simp only [List.setIfInBounds_toArray, List.set_cons_succ, List.set_cons_zero]
  refine assign_box (cs := x.val) lr (fun _ _ h => h) rfl rfl rfl rfl rfl rfl hs h1c rfl rfl ?_
  have hl3 : ((W.alloc (.cells z36 36)).setRow W.heap.size x.val).heap[lr]? = some (.loop rr) := (hb1.block lr (Array.getElem?_eq_some_iff.1 hl2).1).trans hl2
  generalize hW1 : (W.alloc (.cells z36 36)).setRow W.heap.size x.val = W1 at hb1 hAB hl3 ⊢
  refine ⟨keeps_of_below hb1, hb1.mono (by have := hbel.size; have := hbW.size; omega), fun r => ?_⟩
  have hAB2 : SB w (.func (.func fi) #[] caps) p pre x W0.heap.size (W.heap.size + 1) W.heap.size v (W1.putObj lr (.loop r)) :=
   ⟨blk_put hAB.fb (by omega), blk_put hAB.out (by omega), R_put hAB.rows hl3 rfl _, blk_put hAB.box (by have := hbW.size; omega), hAB.ok, R_put hAB.attrs hl3 rfl _, hAB.bel.trans ((Below.refl _ W1).grown (grownBy_putObj' W1 lr _) hAB.bel.size (fun k e => by cases e; omega)), hAB.lt, hAB.le, hAB.eq, hAB.len⟩
  generalize W1.putObj lr (.loop r) = W2 at hAB2 ⊢
  have hlb := hbW.size
  generalize W0.heap.size = lo at hAB2 hlb
  generalize hbxe : W.heap.size = bx at hAB2 hlb ⊢
  have HAB := Aside0.mk hAB2
  have HLB := Aside0.mk hlb
  have HH := Aside0.mk (And.intro hs h1c)
  have HMEM := Aside0.mk hmem
  clear hlb hbel hAB hAB2 hl1 hl0 hl2 hl3 hb1 hbx hpa hbW hv hr hfb hlt hW1 hbxe hok hlen h1c hmem bF bO bG hB0
  simp only [Act.put, List.setIfInBounds_toArray, List.set_cons_succ, List.set_cons_zero]
  have hbxlt : bx < W2.heap.size := (Array.getElem?_eq_some_iff.1 HAB.out.box).1
  have HBX := Aside0.mk hbxlt
  obtain ⟨A0, c0, e0, hc0, hC0⟩ := Kd.R_reads HAB.out.attrs
  injection e0 with e01 e02 e03
  subst e01; subst e03
  have HW2 := Aside0.mk (HWT.out x W2 HAB.out.bel HMEM.out HAB.out.ok hC0 hc0)
  have c3 := HAB.out.fb.cell
  clear hbxlt hC0 hc0 e02
  gi_wp2_with (first | (refine listIn_load_row (some lr) _ rfl 36 (.tmp 6) rfl bx rfl 36 x.val (0, 0) _ HAB.out.box hu36 rfl (by rw [hs]; kernel_rfl) (Aside0.out ?_); refine ⟨?_⟩))
  refine ⟨trivial, ?_⟩
  change CallsIn Fence.wide _ _ _ _ _ _
  refine ((callsIn_wide (n := 2)).2 HW2.out).mono ?_
  rintro e w3 ⟨rfl, hb3⟩
  have HB3 := Aside0.mk hb3
  have HAB3 := Aside0.mk (HAB.out.kept hb3)
  clear hb3 c3
  cases hp : p x.r with
  | false =>
   have HP : Aside0 (((pre ++ [x]).map Rg.r).filter p = (pre.map Rg.r).filter p) := ⟨by rw [List.map_append, List.filter_append]; simp [hp]⟩
   clear hp
   gi_wp2
   exact ⟨keeps_of_below HB3.out, HB3.out.mono HAB.out.bel.size, ⟨⟨v, HAB3.out.out, by rw [HP.out]; exact Kd.R_mono HAB3.out.rows (fun q hq => hq.1)⟩, HAB3.out.fb⟩, HAB3.out.bel⟩
  | true =>
   have HP : Aside0 (((pre ++ [x]).map Rg.r).filter p = (pre.map Rg.r).filter p ++ [x.r]) := ⟨by rw [List.map_append, List.filter_append]; simp [hp]⟩
   have c5 := (blk_cell HAB3.out.out 0).trans (show _ = some v from rfl)
   clear hp
   gi_wp2_with (first | (refine listIn_load_row (some lr) _ rfl 36 (.tmp 6) rfl bx rfl 36 x.val (0, 0) _ HAB3.out.box hu36 rfl (by rw [hs]; kernel_rfl) (Aside0.out ?_)))
   refine ⟨?_⟩
   refine list_round (some lr) _ (fun _ _ h => h) _ _ _ (noDef_spec (ops := #[_, _, _]) (by kernel_rfl)) ?_
   refine wpList_buildRec 14 rfl rfl (some 15) rfl hs rfl ?_
   go_wp2_with (((with_reducible refine gate_builtin (b := .append) (xs := #[.tmp 13, .tmp 15]) rfl ?_); at_builtin; refine Aside0.out ?_))
   refine ⟨?_⟩
   have hds2 : x.val = x.val.toList.toArray := by simp
   rw [hds2]
   refine Kd.R_append kRc (w0 := W2) w.heap.size rfl (.tmp 13) (.tmp 15) 29 36 (.agg z36) 128 rfl Tryz.underlying29 info36 rfl (show 0 < 40 from by decide) (by omega) v ((pre.map Rg.r).filter p) x.r x.val.toList (fun q => w.heap.size + 2 < q) (fun q => lo ≤ q ∧ q < bx + 1) rfl rfl ⟨HAB3.out.ok, _, rfl, Kd.R_lower HAB3.out.attrs (by have := HAB.out.lt; omega)⟩ (fun k hk => ⟨by have := HAB.out.lt; omega, fun e => by have h2 := (HAB3.out.rows.1 _ e.symm).2; omega⟩) (fun k hk => by have h1 := HAB.out.lt; have h2 := HBX.out; have h3 := HB3.out.size; have h4 := HLB.out; omega) (Kd.R_mono HAB3.out.rows (fun q hq => hq.1)) (HB3.out.mono HAB.out.bel.size) HAB3.out.bel.size (by have h1 := List.length_filter_le p (pre.map Rg.r); rw [List.length_map] at h1; have := HAB3.out.len; omega) ?_
   intro v4 W4 hR4 hb4 hg4 _
   have hne1 : some (w.heap.size + 1) ≠ v.ownBlock := fun e => by have := (HAB3.out.rows.1 _ e.symm).1; omega
   have hne0 : some w.heap.size ≠ v.ownBlock := fun e => by have := (HAB3.out.rows.1 _ e.symm).1; omega
   have hob4 : W4.heap[w.heap.size + 1]? = some (.cells #[v] 29 (0, 0)) := (hg4.block _ (blk_lt HAB3.out.out) hne1).trans HAB3.out.out
   have hfb4 : Boxed W4 w.heap.size 72 (.func (.func fi) #[] caps) := (hg4.block _ HAB3.out.fb.lt hne0).trans HAB3.out.fb
   have hkf4 : KeepsFrom B W2 W4 := (keeps_of_below HB3.out).trans (keeps_chg (Chg.grown (F := fun q => v.ownBlock = some q) hg4 (fun q e => e)) (fun q hq => by
    obtain ⟨cells, hcl⟩ := Kd.R_typed HAB3.out.rows q hq
    exact ⟨cells, 36, (0, 0), hcl⟩))
   have q1 := blk_cell hob4 0
   have f1 := blk_frozen hob4 0
   have H4 := Aside0.mk (And.intro hR4 (And.intro hob4 (And.intro hfb4 (And.intro hkf4 hb4))))
   obtain ⟨A4, c4, hv4⟩ := Kd.R_slice hR4
   rw [List.length_append, List.length_singleton] at hv4
   subst hv4
   clear hR4 hb4 hg4 hne1 hne0 hob4 hfb4 hkf4 hds2
   go_wp2_with fail
   obtain ⟨hR4, hob4, hfb4, hkf4, hb4⟩ := H4.out
   have hbe : Below w.heap.size W2 (W4.setCell ⟨w.heap.size + 1, 0, none⟩ (.slice A4 (((pre.map Rg.r).filter p).length + 1) c4)) := hb4.setCell (by show w.heap.size ≤ w.heap.size + 1; omega) _
   refine ⟨hkf4.trans ((KeepsOthers.setCell _ _ _).from _), hbe, ⟨⟨_, blk_set hob4 0 _, ?_⟩, hfb4.other (by omega) _⟩, HAB.out.bel.trans hbe⟩
   rw [HP.out]
   exact Kd.R_set hR4 hob4 (by decide) 0 _
 case done =>
  rintro D zs W hD hzs ⟨⟨⟨v, hv, hr⟩, hfb⟩, hbel⟩ hK
  rw [hzs] at hr
  simp only [World.size_alloc] at hD
  have hc := hv.cell
  have HV := Aside0.mk (And.intro hv (And.intro hr (And.intro hbel hK)))
  have HSO2 := Aside0.mk (HSO.out v W _ hbel.size (Kd.R_bound hr))
  clear hr hfb hbel hK hzs bF bO bG hB0 hv
  gi_wp2_with (refine ⟨trivial, ?_⟩; gi_at_call 67; refine ((callsIn_wide (n := 4)).2 HSO2.out).mono ?_; rintro e w2 ⟨rfl, hr2, hch2⟩; have HR2 := Aside0.mk hr2; have HCH2 := Aside0.mk hch2; have hv2 : Boxed w2 (w.heap.size + 1) 29 v := (hch2.block _ HV.out.1.lt (fun e => by have := e.1; omega)).trans HV.out.1; have hc2 := hv2.cell; clear hr2 hch2 hv2)
  have hDl : D < W.heap.size := (Array.getElem?_eq_some_iff.1 HV.out.2.2.2).1
  have hK2 : w2.heap[D]? = some (.deferred (some [])) := (HCH2.out.block D hDl (fun e => by
   obtain ⟨_, _, _, t, _, cells, hcl⟩ := e
   rw [HV.out.2.2.2] at hcl
   cases hcl)).trans HV.out.2.2.2
  have hb2 : Below w.heap.size w w2 := HV.out.2.2.1.trans (HCH2.out.below (B := w.heap.size) (fun q hq => hq.2.1) HV.out.2.2.1.size)
  refine ⟨by simp, .inl ⟨_, _, rfl, run_takeDeferred hK2, ?_⟩⟩
  refine ⟨_, results_tmp rfl _ _ _, v, rfl, Kd.R_mono (R_put HR2.out hK2 rfl _) (fun _ _ => trivial), ?_⟩
  exact hb2.trans (belowK_b (w := w) (Nat.le_refl _) w2 D _ _ (by omega) hK2 rfl rfl)
end Go.Proofs.YtefeibndnghejaaGreatDoor.Pr
end
section
set_option linter.unusedVariables false
set_option linter.unusedSimpArgs false
namespace Go.Proofs.YtefeibndnghejaaGreatDoor.Pr
open Go.RowKit Go.Proofs.YtefeibndnghejaaGreatDoorW.PrintWords Go.Proofs.YtefeibndnghejaaGreatDoorW.PrintLast Go.Proofs.YtefeibndnghejaaGreatDoorW.PrintMore
def selP (kind : Int) (name : ByteArray) (fr too : Int) (ft : List S85 → Bool) (r : Rd) : Bool := r.x.kd == kind && ((name.toList.isEmpty || r.x.nm.toList == name.toList) && (decide (fr ≤ r.x.tm) && (decide (r.x.tm ≤ too) && ft r.a)))
structure SelBox (W : World) (b1 b2 b3 b4 b5 : Nat) (kind : Int) (name : ByteArray) (fr too : Int) (mv : Value) : Prop where
  h1 : W.cell? ⟨b1, 0, none⟩ = some (.int .i64 kind)
  h2 : W.cell? ⟨b2, 0, none⟩ = some (.string name)
  h3 : W.cell? ⟨b3, 0, none⟩ = some (.int .i64 fr)
  h4 : W.cell? ⟨b4, 0, none⟩ = some (.int .i64 too)
  h5 : W.cell? ⟨b5, 0, none⟩ = some mv
theorem SelBox.below {W W' : World} {b1 b2 b3 b4 b5 : Nat} {kind : Int} {name : ByteArray} {fr too : Int} {mv : Value} (h : SelBox W b1 b2 b3 b4 b5 kind name fr too mv) (hb : Below W.heap.size W W') : SelBox W' b1 b2 b3 b4 b5 kind name fr too mv :=
 have k : ∀ {b : Nat} {v : Value}, W.cell? ⟨b, 0, none⟩ = some v → W'.cell? ⟨b, 0, none⟩ = some v := fun h => (hb.cell (World.block_lt_of_cell? W _ h)).trans h
 ⟨k h.h1, k h.h2, k h.h3, k h.h4, k h.h5⟩
theorem fits_nil (A : Option Addr) (n c : Nat) (w : World) : Calls Tryz.prog 38 #[.slice A n c, .slice none 0 0] w fun e w' => e = .returned (.bool true) ∧ w' = w := by
 go_enter Tryz.func38, Tryz.ntmps38
 go_wp2
 refine wp_loop_rounds 1 ?_
 rw [rounds_succ]
 go_wp2
 go_ret
 exact ⟨rfl, rfl⟩
set_option maxRecDepth 100000 in
set_option maxHeartbeats 8000000 in
theorem sel1_walk (r : Rd) (hx : r.x.ok) (A : Option Addr) (c : Nat) (b1 b2 b3 b4 b5 : Nat) (kind : Int) (name : ByteArray) (fr too : Int) (mv : Value) (ft : List S85 → Bool) (w : World) (hB : SelBox w b1 b2 b3 b4 b5 kind name fr too mv)
  (hft : ∀ W, Below w.heap.size w W → Calls Tryz.prog 38 #[.slice A r.a.length c, mv] W fun e w' => e = .returned (.bool (ft r.a)) ∧ Below W.heap.size W w') :
  Calls Tryz.prog 37 #[.agg (r.x.cells (.slice A r.a.length c)), .pointer (some ⟨b1, 0, none⟩), .pointer (some ⟨b2, 0, none⟩), .pointer (some ⟨b3, 0, none⟩), .pointer (some ⟨b4, 0, none⟩), .pointer (some ⟨b5, 0, none⟩)] w fun e w' => e = .returned (.bool (selP kind name fr too ft r)) ∧ Below w.heap.size w w' := by
 obtain ⟨cs, hcs⟩ : ∃ cs, cs = r.x.cells (.slice A r.a.length c) := ⟨_, rfl⟩
 have p0 : cs[0]? = some (.int .i64 r.x.kd) := by rw [hcs]; rfl
 have p1 : cs[1]? = some (.string r.x.nm) := by rw [hcs]; rfl
 have p2 : cs[2]? = some (.slice A r.a.length c) := by rw [hcs]; exact Rc.at2 _ _
 have p3 : cs[3]? = some (.int .i64 r.x.tm) := by rw [hcs]; rfl
 rw [← hcs]
 obtain ⟨W1, hW1⟩ : ∃ W1, W1 = w.alloc (.cells cs 36) := ⟨_, rfl⟩
 have hb : Below w.heap.size w W1 := hW1 ▸ below_alloc (Below.refl _ _) _
 have bx : W1.heap[w.heap.size]? = some (.cells cs 36 (0, 0)) := hW1 ▸ blk_new w _
 have c0 := (blk_cell bx 0).trans p0
 have c1 := (blk_cell bx 1).trans p1
 have c2 := (blk_cell bx 2).trans p2
 have c3 := (blk_cell bx 3).trans p3
 obtain ⟨g1, g2, g3, g4, g5⟩ := hB.below hb
 have HB := Aside0.mk hb
 have HFT := Aside0.mk (hft W1 hb)
 clear p0 p1 p2 p3 bx hb hcs hB hft hx
 unfold selP
 generalize hft : ft r.a = fb at HFT ⊢
 clear hft
 generalize r.x.kd = kd at *
 generalize r.x.nm = nm at *
 generalize r.x.tm = tm at *
 generalize r.a.length = n at *
 cases e1 : (kd == kind) with
 | false =>
  go_enter Tryz.func37, Tryz.ntmps37
  go_upto_region 1 with (fail)
  rw [← hW1]
  clear hW1
  go_wp2
  go_ret
  exact ⟨rfl, HB.out⟩
 | true =>
  cases e2 : name.toList.isEmpty with
  | true =>
   have e2' : name.toList = [] := List.isEmpty_iff.1 e2
   by_cases h4 : fr ≤ tm
   ·
    have e4 := decide_eq_true h4
    by_cases h5 : tm ≤ too
    ·
     have e5 := decide_eq_true h5
     rw [e4, e5]
     go_enter Tryz.func37, Tryz.ntmps37
     go_upto_region 1 with (fail)
     rw [← hW1]
     clear hW1
     go_wp2_with (go_at_call 38; refine HFT.out.mono ?_; rintro e w2 ⟨rfl, hd⟩; have HD := Aside0.mk (below_step HB.out hd); clear hd)
     go_ret
     exact ⟨rfl, HD.out⟩
    ·
     have e5 := decide_eq_false h5
     rw [e4, e5]
     go_enter Tryz.func37, Tryz.ntmps37
     go_upto_region 1 with (fail)
     rw [← hW1]
     clear hW1
     go_wp2
     go_ret
     exact ⟨rfl, HB.out⟩
   ·
    have e4 := decide_eq_false h4
    rw [e4]
    go_enter Tryz.func37, Tryz.ntmps37
    go_upto_region 1 with (fail)
    rw [← hW1]
    clear hW1
    go_wp2
    go_ret
    exact ⟨rfl, HB.out⟩
  | false =>
   have e2' : ¬ name.toList = [] := fun e => by rw [e] at e2; cases e2
   cases e3 : (nm.toList == name.toList) with
   | false =>
    go_enter Tryz.func37, Tryz.ntmps37
    go_upto_region 1 with (fail)
    rw [← hW1]
    clear hW1
    go_wp2
    go_ret
    exact ⟨rfl, HB.out⟩
   | true =>
    by_cases h4 : fr ≤ tm
    ·
     have e4 := decide_eq_true h4
     by_cases h5 : tm ≤ too
     ·
      have e5 := decide_eq_true h5
      rw [e4, e5]
      go_enter Tryz.func37, Tryz.ntmps37
      go_upto_region 1 with (fail)
      rw [← hW1]
      clear hW1
      go_wp2_with (go_at_call 38; refine HFT.out.mono ?_; rintro e w2 ⟨rfl, hd⟩; have HD := Aside0.mk (below_step HB.out hd); clear hd)
      go_ret
      exact ⟨rfl, HD.out⟩
     ·
      have e5 := decide_eq_false h5
      rw [e4, e5]
      go_enter Tryz.func37, Tryz.ntmps37
      go_upto_region 1 with (fail)
      rw [← hW1]
      clear hW1
      go_wp2
      go_ret
      exact ⟨rfl, HB.out⟩
    ·
     have e4 := decide_eq_false h4
     rw [e4]
     go_enter Tryz.func37, Tryz.ntmps37
     go_upto_region 1 with (fail)
     rw [← hW1]
     clear hW1
     go_wp2
     go_ret
     exact ⟨rfl, HB.out⟩
end Go.Proofs.YtefeibndnghejaaGreatDoor.Pr
end
section
set_option linter.unusedVariables false
set_option linter.unusedSimpArgs false
namespace Go.Proofs.YtefeibndnghejaaGreatDoor.Pr
open Go.RowKit Go.Proofs.YtefeibndnghejaaGreatDoorW.PrintWords Go.Proofs.YtefeibndnghejaaGreatDoorW.PrintLast Go.Proofs.YtefeibndnghejaaGreatDoorW.PrintMore
theorem sort1_walk (A : Option Addr) (n c : Nat) (w : World) (hn : n ≤ 1) : Calls Tryz.prog 67 #[.slice A n c, .func (.func 68) #[] #[]] w fun e w' => e = .returned (.tuple #[]) ∧ w' = w := by
 have h107 : Calls Tryz.prog 107 #[.slice A n c, .int .i64 0, .int .i64 n, .func (.func 68) #[] #[]] w fun e w' => e = .returned (.tuple #[]) ∧ w' = w := by
  have hz : ¬ (1 : Int) < (n : Int) := by omega
  go_enter Tryz.func107, Tryz.ntmps107
  go_wp2
  refine wp_loop_rounds 1 ?_
  rw [rounds_succ]
  go_wp2
  first | go_end0 | refine bodyPost_ret (results_none rfl _ _ _) rfl ?_
  exact ⟨rfl, rfl⟩
 have H := Aside0.mk h107
 clear h107
 have h86 : Calls Tryz.prog 86 #[.slice A n c, .int .i64 n, .func (.func 68) #[] #[]] w fun e w' => e = .returned (.tuple #[]) ∧ w' = w := by
  have hz : ¬ (20 : Int) ≤ (n : Int) := by omega
  have hz2 : ¬ (20 : Int) < (n : Int) := by omega
  go_enter Tryz.func86, Tryz.ntmps86
  go_wp2
  refine wp_loop_rounds 1 ?_
  rw [rounds_succ]
  go_wp2_with (go_at_call 107; refine H.out.mono ?_; rintro e w1 ⟨rfl, rfl⟩)
  refine wp_loop_rounds 1 ?_
  rw [rounds_succ]
  go_wp2
  first | go_end0 | refine bodyPost_ret (results_none rfl _ _ _) rfl ?_
  exact ⟨rfl, rfl⟩
 have H2 := Aside0.mk h86
 clear h86
 go_enter Tryz.func67, Tryz.ntmps67
 go_wp2_with (go_at_call 86; refine H2.out.mono ?_; rintro e w1 ⟨rfl, rfl⟩)
 first | go_end0 | refine bodyPost_ret (results_none rfl _ _ _) rfl ?_
 exact ⟨rfl, rfl⟩
set_option maxRecDepth 100000 in
set_option maxHeartbeats 4000000 in
theorem select_walk (kind : Int) (name : ByteArray) (Am : Option Addr) (nm cm : Nat) (fr too : Int) (ft : List S85 → Bool) (srt : List Rd → List Rd) (g : Nat) (most ver : Int) (R : List Rd) (base : Nat) (F : Nat → Prop) (w : World) (hS : St w base F g most ver R) (hR : R.length < 1048576)
  (hft : ∀ r ∈ R, ∀ A c W, Below w.heap.size w W → Kd.C k85 W A r.a.length r.a → r.a.length ≤ c → Calls Tryz.prog 38 #[.slice A r.a.length c, .slice Am nm cm] W fun e w' => e = .returned (.bool (ft r.a)) ∧ Below W.heap.size W w')
  (hsort : ∀ (v : Value) (W : World) (base' : Nat) (ok' : Nat → Prop), base' ≤ W.heap.size → kRc.R 36 W base' ok' v (R.filter (selP kind name fr too ft)) → Calls Tryz.prog 67 #[v, .func (.func 68) #[] #[]] W fun e w' => e = .returned (.tuple #[]) ∧ kRc.R 36 w' base' ok' v (srt (R.filter (selP kind name fr too ft))) ∧ Chg ok' W w') :
  Calls Tryz.prog 11 #[.pointer (some ⟨g, 0, none⟩), .int .i64 kind, .string name, .slice Am nm cm, .int .i64 fr, .int .i64 too] w fun e w' => ∃ v, e = .returned v ∧ kRc.R 36 w' w.heap.size (fun _ => True) v (srt (R.filter (selP kind name fr too ft))) ∧ Below w.heap.size w w' := by
 obtain ⟨l, m1, m2, FR, FM, F1, F2, hP⟩ := hS
 obtain ⟨W1, hW1⟩ : ∃ W1, W1 = ((((w.alloc (.cells #[.int .i64 kind] 3)).alloc (.cells #[.string name] 9)).alloc (.cells #[.slice Am nm cm] 40)).alloc (.cells #[.int .i64 fr] 2)).alloc (.cells #[.int .i64 too] 2) := ⟨_, rfl⟩
 have hb : Below w.heap.size w W1 := hW1 ▸ below_alloc (below_alloc (below_alloc (below_alloc (below_alloc (Below.refl _ _) _) _) _) _) _
 have hsz : W1.heap.size = w.heap.size + 5 := by rw [hW1]; simp
 have hbx : SelBox W1 w.heap.size (w.heap.size + 1) (w.heap.size + 1 + 1 + 1) (w.heap.size + 1 + 1 + 1 + 1) (w.heap.size + 1 + 1) kind name fr too (.slice Am nm cm) := by
  rw [hW1]
  have n1 := blk_new w (.cells #[.int .i64 kind] 3)
  have n2 := blk_new (w.alloc (.cells #[.int .i64 kind] 3)) (.cells #[.string name] 9)
  have n3 := blk_new ((w.alloc (.cells #[.int .i64 kind] 3)).alloc (.cells #[.string name] 9)) (.cells #[.slice Am nm cm] 40)
  have n4 := blk_new (((w.alloc (.cells #[.int .i64 kind] 3)).alloc (.cells #[.string name] 9)).alloc (.cells #[.slice Am nm cm] 40)) (.cells #[.int .i64 fr] 2)
  have n5 := blk_new ((((w.alloc (.cells #[.int .i64 kind] 3)).alloc (.cells #[.string name] 9)).alloc (.cells #[.slice Am nm cm] 40)).alloc (.cells #[.int .i64 fr] 2)) (.cells #[.int .i64 too] 2)
  simp only [World.size_alloc] at n2 n3 n4 n5
  exact ⟨(blk_cell (blk_alloc (blk_alloc (blk_alloc (blk_alloc n1 _) _) _) _) 0).trans rfl, (blk_cell (blk_alloc (blk_alloc (blk_alloc n2 _) _) _) 0).trans rfl, (blk_cell (blk_alloc n4 _) 0).trans rfl, (blk_cell n5 0).trans rfl, (blk_cell (blk_alloc (blk_alloc n3 _) _) 0).trans rfl⟩
 have hsome := some_walk 37 #[.pointer (some ⟨w.heap.size, 0, none⟩), .pointer (some ⟨w.heap.size + 1, 0, none⟩), .pointer (some ⟨w.heap.size + 1 + 1 + 1, 0, none⟩), .pointer (some ⟨w.heap.size + 1 + 1 + 1 + 1, 0, none⟩), .pointer (some ⟨w.heap.size + 1 + 1, 0, none⟩)] (selP kind name fr too ft) srt g most ver l m1 m2 R base FR W1
  (blk_below hP.mp.blk hb) (Kd.R_below hP.rec_ hb) hP.fine hR (enters_of Tryz.func37 (by kernel_rfl) rfl)
  (fun x W hbW hmem hok hC hc => sel1_walk x.r hok x.A x.c w.heap.size (w.heap.size + 1) (w.heap.size + 1 + 1 + 1) (w.heap.size + 1 + 1 + 1 + 1) (w.heap.size + 1 + 1) kind name fr too (.slice Am nm cm) ft W (hbx.below hbW) (fun W' hb' => hft x.r hmem x.A x.c W' (below_step (below_step hb hbW) hb') (Kd.C_below hC hb') hc))
  (fun v W ok' hle hr => hsort v W W1.heap.size ok' hle hr)
 have HS := Aside0.mk hsome
 have HB := Aside0.mk (And.intro hb hsz)
 clear hsome hbx hb hsz hft hsort hP
 go_enter Tryz.func11, Tryz.ntmps11
 go_upto_region 1 with (fail)
 rw [← hW1]
 clear hW1
 go_wp2_with (go_at_call 36; refine HS.out.mono ?_; rintro e w2 ⟨v, rfl, hr2, hb2⟩; have HR2 := Aside0.mk (And.intro hr2 hb2); obtain ⟨A2, c2, rfl⟩ := Kd.R_slice hr2; clear hr2 hb2)
 go_ret
 exact ⟨_, rfl, Kd.R_lower HR2.out.1 HB.out.1.size, below_step HB.out.1 HR2.out.2⟩
end Go.Proofs.YtefeibndnghejaaGreatDoor.Pr
end
