import Derived.Test.YtefeibndnghejaaGreatDoorProg
import Derived.Tactics
import Derived.Tactics2
import Derived.Defers
import Derived.Laws.Pointers
import Derived.Laws.LoneSync
import Derived.RegionTactic
import Derived.RegionCalls
import Derived.ChangeAlike
import Derived.Lib.Hide
import Derived.Test.YtefeibndnghejaaGreatDoorJn1
import Derived.Laws.NewBlocks
import Derived.Test.YtefeibndnghejaaGreatDoorJn3
import Derived.Below
import Derived.LoopN
import Derived.Deep.MidRow
import Derived.Deep.WholeRow
import Derived.WalkSpells
import Derived.Laws.IdiomStrings
import Derived.Shelf.Strings.Builder1
import Derived.Shelf.Strings.Builder2
import Derived.Shelf.Strings.OnBuilder
import Derived.Shelf.Small.Bits
import Derived.Shelf.Small.Strs
import Derived.Shelf.Strings.BuilderF
import Derived.Shelf.Strings.BuilderK
import Derived.Shelf.Strconv.Itoa0
import Derived.Shelf.Strings.Search1
import Derived.Shelf.Strings.Search2
import Derived.Shelf.Strings.Search3
import Derived.Shelf.Strings.Count
import Derived.Shelf.LaysM
import Derived.Shelf.Strings.Shaped
section
set_option linter.unusedVariables false
set_option linter.unusedSimpArgs false
namespace Go.Proofs.YtefeibndnghejaaGreatDoor.Pr
theorem disable (w : World) : (callFunc 189 #[]).run Tryz.prog w = .ok (.value (.tuple #[])) w := run_call_mark0 Tryz.func189 (by kernel_rfl) (by kernel_rfl) (by kernel_rfl) .disable (by kernel_rfl) w
theorem enable (w : World) : (callFunc 191 #[]).run Tryz.prog w = .ok (.value (.tuple #[])) w := run_call_mark0 Tryz.func191 (by kernel_rfl) (by kernel_rfl) (by kernel_rfl) .enable (by kernel_rfl) w
theorem acquire (a : Addr) (w : World) : (callFunc 192 #[.pointer (some a)]).run Tryz.prog w = .ok (.value (.tuple #[])) w := run_call_marked Tryz.func192 (by kernel_rfl) (by kernel_rfl) (by kernel_rfl) .acquire (by kernel_rfl) a w
theorem releaseMerge (a : Addr) (w : World) : (callFunc 194 #[.pointer (some a)]).run Tryz.prog w = .ok (.value (.tuple #[])) w := run_call_marked Tryz.func194 (by kernel_rfl) (by kernel_rfl) (by kernel_rfl) .releaseMerge (by kernel_rfl) a w
set_option maxHeartbeats 4000000 in
set_option maxRecDepth 1000000 in
theorem store_deferred (a : Addr) (x : Value) (u : FrameMode) (w : World) (hc : w.cell? a = some x) (hz : w.frozen? a = false) :
  CallsD Tryz.prog 176 #[.pointer (some a), .bool true] u w fun e u' w' => u' = u ∧ (e = .returned (.tuple #[]) ∧ w' = w.drew.setCell a (.int .u32 1)) := by
 have hc' : w.drew.cell? a = some x := by go_simp
 have hz' : w.drew.frozen? a = false := by go_simp
 have hst := run_call_store (P := Tryz.prog) Tryz.func185 (by kernel_rfl) (by kernel_rfl) (by kernel_rfl) (by kernel_rfl) (k := .u32) (y := 1) hc' hz'
 go_enter_d Tryz.func176, Tryz.ntmps176
 go_wp2
 go_region_calls
 all_goals (go_end0; exact ⟨rfl, rfl⟩)
set_option maxHeartbeats 4000000 in
set_option maxRecDepth 1000000 in
theorem unlock_deferred (a : Addr) (u : FrameMode) (w : World) (hc : w.cell? a = some (.int .i32 1)) (hz : w.frozen? a = false) :
  CallsD Tryz.prog 175 #[.pointer (some a)] u w fun e u' w' => u' = u ∧ (e = .returned (.tuple #[]) ∧ w' = w.setCell a (.int .i32 0)) := by
 have hd := disable
 have he := enable
 have hr := releaseMerge
 have hadd := run_call_add (P := Tryz.prog) Tryz.func195 (by kernel_rfl) (by kernel_rfl) (by kernel_rfl) .i32 (by kernel_rfl) (y := -1) (s := 0) hc hz (by simp [go_sem]; rfl)
 have hcv := run_convert_to_unsafe (P := Tryz.prog) (src := 251) (dst := 230) Tryz.underlying251 Tryz.underlying230 (by kernel_rfl) hc
 go_enter_d Tryz.func175, Tryz.ntmps175
 go_wp2
 go_end0
 go_wp2
 go_end0
 exact ⟨rfl, rfl⟩
set_option maxHeartbeats 4000000 in
set_option maxRecDepth 1000000 in
theorem lock_free (a : Addr) (w : World) (hc : w.cell? a = some (.int .i32 0)) (hz : w.frozen? a = false) :
  Calls Tryz.prog 174 #[.pointer (some a)] w fun e w' => e = .returned (.tuple #[]) ∧ w' = w.setCell a (.int .i32 1) := by
 have hd := disable
 have he := enable
 have ha := acquire
 have hcas := run_call_cas_hit (P := Tryz.prog) Tryz.func190 (by kernel_rfl) (by kernel_rfl) (by kernel_rfl) .i32 (by kernel_rfl) (y := 1) hc hz
 have hc' : (w.setCell a (.int .i32 1)).cell? a = some (.int .i32 1) := World.cell?_setCell_same w a _ hc
 have hcv := run_convert_to_unsafe (P := Tryz.prog) (src := 251) (dst := 230) Tryz.underlying251 Tryz.underlying230 (by kernel_rfl) hc'
 go_enter Tryz.func174, Tryz.ntmps174
 go_wp2
 first | go_end0 | (simp only [Exit.inBlock, Exit.then]; refine bodyPost_ret (results_none rfl _ _ _) rfl ?_) | refine bodyPost_ret (results_none rfl _ _ _) rfl ?_
 go_wp2
 go_end0
 exact ⟨rfl, rfl⟩
end Go.Proofs.YtefeibndnghejaaGreatDoor.Pr
end
section
set_option linter.unusedVariables false
set_option linter.unusedSimpArgs false
namespace Go.Proofs.YtefeibndnghejaaGreatDoor.Pr
open Go.Proofs.YtefeibndnghejaaGreatDoorW.PrintWords
theorem bcell {w : World} {g : Nat} {cs : Array Value} {t : TypeId} (h : w.heap[g]? = some (.cells cs t (0, 0))) (i : Nat) : w.cell? ⟨g, i, none⟩ = cs[i]? := blk_cell h i
set_option maxRecDepth 1000000 in
set_option maxHeartbeats 4000000 in
theorem slow_any (g : Nat) (x3 x4 y3 y4 : Value) (w : World) (R : World → Prop) (hb : w.heap[g]? = some (.cells #[.int .u32 0, .int .i32 0, .int .u32 0, x3, x4] 169 (0, 0)))
  (hF : Calls Tryz.prog 122 #[.pointer (some ⟨g, 0, none⟩)] (w.setCell ⟨g, 1, none⟩ (.int .i32 1)) fun e w' => e = .returned (.tuple #[]) ∧ w'.heap[g]? = some (.cells #[.int .u32 0, .int .i32 1, .int .u32 0, y3, y4] 169 (0, 0)) ∧ R w')
  (hR : ∀ W j u, R W → R (W.setCell ⟨g, j, none⟩ u)) (hD : ∀ W, R W → R W.drew) :
  Calls Tryz.prog 155 #[.pointer (some ⟨g, 0, none⟩), .func (.func 122) #[.pointer (some ⟨g, 0, none⟩)] #[]] w fun e w' => e = .returned (.tuple #[]) ∧
   w'.heap[g]? = some (.cells #[.int .u32 1, .int .i32 0, .int .u32 0, y3, y4] 169 (0, 0)) ∧ R w' := by
 have h0 : w.cell? ⟨g, 0, none⟩ = some (.int .u32 0) := bcell hb 0
 have h1 : w.cell? ⟨g, 1, none⟩ = some (.int .i32 0) := bcell hb 1
 have f1 : w.frozen? ⟨g, 1, none⟩ = false := blk_frozen hb 1
 have hl := run_call_load (P := Tryz.prog) Tryz.func173 (by kernel_rfl) (by kernel_rfl) (by kernel_rfl) .u32 (by kernel_rfl) (w := w.setCell ⟨g, 1, none⟩ (.int .i32 1)) (a := ⟨g, 0, none⟩) (x := 0) ((World.cell?_setCell_other _ ⟨g, 1, none⟩ ⟨g, 0, none⟩ _ (by simp)).trans h0)
 have hnot : ∀ (x : Bool) (w : World), (Op.unary .not (.bool x)).run Tryz.prog w = .ok (.bool (!x)) w := fun _ _ => rfl
 have HF := Aside0.mk hF
 have HR := Aside0.mk hR
 have HD := Aside0.mk hD
 clear hF hb hR hD
 go_enter_defers Tryz.func155, Tryz.ntmps155
 go_wp2_with (go_at_call 174; refine (lock_free ⟨g, 1, none⟩ _ (by go_simp) (by go_simp)).mono ?_; rintro e w' ⟨rfl, rfl⟩)
 go_wp2_with (first | (go_at_call 122; refine HF.out.mono ?_; rintro e w1 ⟨rfl, hb1, hr1⟩; have HB1 := Aside0.mk hb1; have HR1 := Aside0.mk hr1; clear hb1 hr1) | (go_at_call 154; go_in))
 have k0 : w1.cell? ⟨g, 0, none⟩ = some (.int .u32 0) := bcell HB1.out 0
 have k1 : w1.cell? ⟨g, 1, none⟩ = some (.int .i32 1) := bcell HB1.out 1
 have z0 : w1.frozen? ⟨g, 0, none⟩ = false := blk_frozen HB1.out 0
 have z1 : w1.frozen? ⟨g, 1, none⟩ = false := blk_frozen HB1.out 1
 have HBd : w1.drew.heap[g]? = _ := HB1.out
 have B1 := blk_set HBd 0 (.int .u32 1)
 have B2 := blk_set B1 1 (.int .i32 0)
 refine leaves_cons (f := 176) (args := #[.pointer (some ⟨g, 0, none⟩), .bool true]) (by simp) (by simp [go_sem]) ?_
 refine (store_deferred ⟨g, 0, none⟩ (.int .u32 0) _ _ k0 z0).mono ?_
 rintro e u' w'' ⟨rfl, rfl, rfl⟩
 refine leaves_cons (f := 175) (args := #[.pointer (some ⟨g, 1, none⟩)]) (by simp [settle]) (by simp [go_sem]) ?_
 refine (unlock_deferred ⟨g, 1, none⟩ _ _ (bcell B1 1) (blk_frozen B1 1)).mono ?_
 rintro e u' w'' ⟨rfl, rfl, rfl⟩
 simp [Leaves, settle, results, Tryz.results155]
 exact ⟨B2, HR.out _ _ _ (HR.out _ _ _ (HD.out _ HR1.out))⟩
end Go.Proofs.YtefeibndnghejaaGreatDoor.Pr
end
section
set_option linter.unusedVariables false
set_option linter.unusedSimpArgs false
namespace Go.Proofs.YtefeibndnghejaaGreatDoor.Pr
open Go.RowKit Go.Proofs.YtefeibndnghejaaGreatDoorW.PrintWords Go.Proofs.YtefeibndnghejaaGreatDoorW.PrintLast Go.Proofs.YtefeibndnghejaaGreatDoorW.PrintMore
theorem lt_of_cell {w : World} {g i : Nat} {v : Value} (h : w.cell? ⟨g, i, none⟩ = some v) : g < w.heap.size := by
 rcases Nat.lt_or_ge g w.heap.size with h' | h'
 ·
  exact h'
 ·
  simp [World.cell?, Array.getElem?_eq_none h'] at h
theorem alloc_size (w : World) (o : Obj) : w.heap.size + 1 = (w.alloc o).heap.size := (Array.size_push _).symm
theorem one_back (b : UInt8) (W : World) : (convert 172 9 (.slice (some ⟨W.heap.size, 0, none⟩) 1 1)).run Tryz.prog (W.alloc (.cells #[.int .u8 (b.toNat : Int)] 5)) = .ok (.string ⟨#[b]⟩) (W.alloc (.cells #[.int .u8 (b.toNat : Int)] 5)) :=
 run_convert_bytes_back (P := Tryz.prog) (W.alloc (.cells #[.int .u8 (b.toNat : Int)] 5)) 172 9 5 ⟨W.heap.size, 0, none⟩ 1 [b] Tryz.underlying172 Tryz.underlying5 Tryz.underlying9 (fun j hj => by
  have : j = 0 := by simp at hj; omega
  subst this
  exact World.cell?_alloc_at _ _ _ _ rfl)
theorem make3 (W : World) : (Instr.makeSlice 55 (.int .i64 0) (.int .i64 3)).run Tryz.prog W = .ok (.slice (some ⟨W.heap.size, 0, none⟩) 0 3) (W.alloc (.cells #[.string ⟨#[]⟩, .string ⟨#[]⟩, .string ⟨#[]⟩] 9)) :=
 by
 have hi : (Tryz.prog.info? 9).map (fun i => (i.zero, i.size, i.bytes)) = some (some (.string ⟨#[]⟩), 1, 16) := by kernel_rfl
 cases h : Tryz.prog.info? 9 with
 | none => simp [h] at hi
 | some i =>
  simp [h] at hi
  have := run_make (P := Tryz.prog) W 55 9 i (.string ⟨#[]⟩) Tryz.underlying55 h hi.1 .i64 .i64 0 3 (by omega) (by omega) (by rw [hi.2.2]; decide) (by omega)
  rw [hi.2.1] at this
  have e : madeCells (Value.string ⟨#[]⟩).cells (Int.toNat 3 * 1) = #[.string ⟨#[]⟩, .string ⟨#[]⟩, .string ⟨#[]⟩] := by kernel_rfl
  rw [e] at this
  exact this
def bw (W : World) (s : ByteArray) : World := W.drew.alloc (.cells (bytesRow s (grownCap W s.size 0 5)) 5 ((bytesRow s (grownCap W s.size 0 5)).size, (bytesRow s (grownCap W s.size 0 5)).size + 1))
theorem bw_size (W : World) (s : ByteArray) : (bw W s).heap.size = W.heap.size + 1 := (alloc_size W.drew _).symm
theorem bw_run (W : World) (s : ByteArray) : (convert 9 172 (.string s)).run Tryz.prog W = .ok (.slice (some ⟨W.heap.size, 0, none⟩) s.size (grownCap W s.size 0 5)) (bw W s) :=
 run_bytes_of_string W 9 172 5 s Tryz.underlying9 Tryz.underlying172 Tryz.underlying5
theorem bw_old (W : World) (s : ByteArray) (n i : Nat) (h : n < W.heap.size) : (bw W s).cell? ⟨n, i, none⟩ = W.cell? ⟨n, i, none⟩ := by
 have : (bw W s).heap[n]? = W.heap[n]? := by
  show (W.heap.push _)[n]? = _
  rw [Array.getElem?_push, if_neg (by omega)]
 simp only [World.cell?, this]
theorem bw_oldF (W : World) (s : ByteArray) (n i : Nat) (h : n < W.heap.size) : (bw W s).frozen? ⟨n, i, none⟩ = W.frozen? ⟨n, i, none⟩ := by
 have : (bw W s).heap[n]? = W.heap[n]? := by
  show (W.heap.push _)[n]? = _
  rw [Array.getElem?_push, if_neg (by omega)]
 simp only [World.frozen?, this]
theorem bw_below {k : Nat} {w W : World} (s : ByteArray) (h : Below k w W) (hk : k ≤ W.heap.size) : Below k w (bw W s) := h.drew.alloc hk _
def repl : Option (Nat × Nat) → Value
  | none => .slice none 0 0
  | some (g, c) => .slice (some ⟨g, 0, none⟩) 2 c
def rlies (w w' : World) (k : Nat) : Option (Nat × Nat) → Prop
  | none => True
  | some (g, c) => w.heap.size + 1 < g ∧ g < w'.heap.size ∧ 2 ≤ c ∧ w'.cell? ⟨g, 0, none⟩ = some (.int .u8 92) ∧ w'.cell? ⟨g, 1, none⟩ = some (.int .u8 (k : Int))
structure Bs (w : World) (a b c : Option (Nat × Nat)) (n : Nat) (x y z : ByteArray) (w' : World) : Prop where
  lt : w.heap.size + 1 < w'.heap.size
  bel : Below w.heap.size w w'
  H : ∃ ch, w'.heap[w.heap.size + 1]? = some (.cells ch 228 (0, 0)) ∧ ch.size = 257 ∧ ch[10]? = some (repl a) ∧ ch[92]? = some (repl b) ∧ ch[34]? = some (repl c) ∧
    ch[256]? = some (.slice (some ⟨w.heap.size, 0, none⟩) n 3) ∧ ∀ i, i < 256 → i ≠ 10 → i ≠ 92 → i ≠ 34 → ch[i]? = some (.slice none 0 0)
  T : w'.heap[w.heap.size]? = some (.cells #[.string x, .string y, .string z] 9 (0, 0))
  A : rlies w w' 110 a
  B : rlies w w' 92 b
  C : rlies w w' 34 c
theorem rlies_step {w w1 w2 : World} {k : Nat} (h1 : w1.heap.size ≤ w2.heap.size) (h2 : ∀ g, w.heap.size + 1 < g → g < w1.heap.size → w2.heap[g]? = w1.heap[g]?) : ∀ {a : Option (Nat × Nat)}, rlies w w1 k a → rlies w w2 k a
 | none, _ => trivial
 | some (g, c), ⟨a1, a2, a3, a4, a5⟩ => ⟨a1, by omega, a3, (World.cell?_of_block (w := w1) (h2 g a1 a2)).trans a4, (World.cell?_of_block (w := w1) (h2 g a1 a2)).trans a5⟩
section
variable {w w1 : World} {a b c : Option (Nat × Nat)} {n : Nat} {x y z : ByteArray}
theorem Bs.far {w2 : World} (h : Bs w a b c n x y z w1) (hs : w1.heap.size ≤ w2.heap.size) (hb : Below w.heap.size w w2) (hk : ∀ k, k < w1.heap.size → w2.heap[k]? = w1.heap[k]?) : Bs w a b c n x y z w2 := by
 have hlt := h.lt
 obtain ⟨ch, e, r⟩ := h.H
 exact ⟨by omega, hb, ⟨ch, (hk _ hlt).trans e, r⟩, (hk _ (by omega)).trans h.T, rlies_step hs (fun g _ hg => hk g hg) h.A, rlies_step hs (fun g _ hg => hk g hg) h.B, rlies_step hs (fun g _ hg => hk g hg) h.C⟩
theorem Bs.alloc (h : Bs w a b c n x y z w1) (o : Obj) : Bs w a b c n x y z (w1.alloc o) :=
 h.far (by rw [← alloc_size]; omega) (h.bel.alloc (by have := h.lt; omega) _) fun k hk => Below.heap_alloc _ _ _ hk
theorem Bs.bytes (h : Bs w a b c n x y z w1) (s : ByteArray) : Bs w a b c n x y z (bw w1 s) :=
 h.far (by rw [bw_size]; omega) (bw_below _ h.bel (by have := h.lt; omega)) fun k hk => Below.heap_alloc w1.drew _ _ hk
theorem Bs.setH (h : Bs w a b c n x y z w1) (i : Nat) (u : Value) {a' b' c' : Option (Nat × Nat)} {n' : Nat}
  (hA : rlies w w1 110 a') (hB : rlies w w1 92 b') (hC : rlies w w1 34 c')
  (hi : ∀ ch : Array Value, ch.size = 257 → ch[10]? = some (repl a) → ch[92]? = some (repl b) → ch[34]? = some (repl c) → ch[256]? = some (.slice (some ⟨w.heap.size, 0, none⟩) n 3) →
   (ch.setIfInBounds i u)[10]? = some (repl a') ∧ (ch.setIfInBounds i u)[92]? = some (repl b') ∧ (ch.setIfInBounds i u)[34]? = some (repl c') ∧ (ch.setIfInBounds i u)[256]? = some (.slice (some ⟨w.heap.size, 0, none⟩) n' 3))
  (hi2 : i = 10 ∨ i = 92 ∨ i = 34 ∨ i = 256) : Bs w a' b' c' n' x y z (w1.setCell ⟨w.heap.size + 1, i, none⟩ u) := by
 have hlt := h.lt
 obtain ⟨ch, e, e1, e2, e3, e4, e5, e6⟩ := h.H
 have hf : ∀ g, w.heap.size + 1 < g → g < w1.heap.size → (w1.setCell ⟨w.heap.size + 1, i, none⟩ u).heap[g]? = w1.heap[g]? := fun g hg _ => Below.heap_setCell _ _ _ _ (by show g ≠ w.heap.size + 1; omega)
 have hs : w1.heap.size ≤ (w1.setCell ⟨w.heap.size + 1, i, none⟩ u).heap.size := by simp
 obtain ⟨k1, k2, k3, k4⟩ := hi ch e1 e2 e3 e4 e5
 refine ⟨by omega, h.bel.setCell (by show _ ≤ w.heap.size + 1; omega) _, ⟨_, blk_set e i u, by rw [Array.size_setIfInBounds]; exact e1, k1, k2, k3, k4, fun j j1 j2 j3 j4 => ?_⟩, (Below.heap_setCell _ _ _ _ (by show w.heap.size ≠ w.heap.size + 1; omega)).trans h.T, rlies_step hs hf hA, rlies_step hs hf hB, rlies_step hs hf hC⟩
 rw [Array.getElem?_setIfInBounds_ne (by omega)]
 exact e6 j j1 j2 j3 j4
theorem Bs.setT (h : Bs w a b c n x y z w1) {x' y' z' : ByteArray} : Bs w a b c n x' y' z' (w1.setRow w.heap.size #[.string x', .string y', .string z']) := by
 have hlt := h.lt
 obtain ⟨ch, e, r⟩ := h.H
 have hs : w1.heap.size ≤ (w1.setRow w.heap.size #[.string x', .string y', .string z']).heap.size := by simp
 have hf : ∀ g, w.heap.size + 1 < g → g < w1.heap.size → (w1.setRow w.heap.size #[.string x', .string y', .string z']).heap[g]? = w1.heap[g]? := fun g hg _ => setRow_other _ _ _ _ (by omega)
 exact ⟨by omega, ⟨h.bel.os, h.bel.tape, h.bel.output, Nat.le_trans h.bel.size hs, fun k hk => (setRow_other _ _ _ _ (by omega)).trans (h.bel.block k hk)⟩, ⟨ch, (setRow_other _ _ _ _ (by omega)).trans e, r⟩, setRow_heap _ _ _ _ _ _ h.T, rlies_step hs hf h.A, rlies_step hs hf h.B, rlies_step hs hf h.C⟩
end
theorem bw_new (W : World) (s : ByteArray) (i : Nat) : (bw W s).cell? ⟨W.heap.size, i, none⟩ = (bytesRow s (grownCap W s.size 0 5))[i]? :=
 cell_of_row _ _ _ _ _ _ (heap_alloc_new W.drew _)
theorem rlies_new (w W : World) (k : UInt8) (h : w.heap.size + 1 < W.heap.size) : rlies w (bw W ⟨#[92, k]⟩) k.toNat (some (W.heap.size, grownCap W 2 0 5)) :=
 ⟨h, by rw [bw_size]; omega, grownCap_ge _ _ _ _, (bw_new _ _ _).trans (by unfold bytesRow; rw [Array.getElem?_append_left (by simp)]; first | (simp; done) | (simp; rfl)), (bw_new _ _ _).trans (by unfold bytesRow; rw [Array.getElem?_append_left (by simp)]; first | (simp; done) | (simp; rfl))⟩
theorem Bs.repA {w w1 : World} {a b c : Option (Nat × Nat)} {n : Nat} {x y z : ByteArray} (h : Bs w a b c n x y z w1) (m : Nat) :
  Bs w (some (w1.heap.size, grownCap (w1.setCell ⟨w.heap.size + 1, 256, none⟩ (.slice (some ⟨w.heap.size, 0, none⟩) m 3)) 2 0 5)) b c m x y z ((bw (w1.setCell ⟨w.heap.size + 1, 256, none⟩ (.slice (some ⟨w.heap.size, 0, none⟩) m 3)) ⟨#[92, 110]⟩).setCell ⟨w.heap.size + 1, 10, none⟩ (.slice (some ⟨w1.heap.size, 0, none⟩) 2 (grownCap (w1.setCell ⟨w.heap.size + 1, 256, none⟩ (.slice (some ⟨w.heap.size, 0, none⟩) m 3)) 2 0 5))) := by
 have h1 : Bs w a b c m x y z (w1.setCell ⟨w.heap.size + 1, 256, none⟩ (.slice (some ⟨w.heap.size, 0, none⟩) m 3)) :=
  h.setH 256 _ h.A h.B h.C (fun ch e1 e2 e3 e4 e5 => ⟨by rw [Array.getElem?_setIfInBounds_ne (by decide)]; exact e2, by rw [Array.getElem?_setIfInBounds_ne (by decide)]; exact e3, by rw [Array.getElem?_setIfInBounds_ne (by decide)]; exact e4, by rw [Array.getElem?_setIfInBounds_self_of_lt (by omega)]⟩) (by omega)
 have h2 := h1.bytes ⟨#[92, 110]⟩
 have hsz : (w1.setCell ⟨w.heap.size + 1, 256, none⟩ (.slice (some ⟨w.heap.size, 0, none⟩) m 3)).heap.size = w1.heap.size := by simp
 have hn := rlies_new w (w1.setCell ⟨w.heap.size + 1, 256, none⟩ (.slice (some ⟨w.heap.size, 0, none⟩) m 3)) 110 h1.lt
 rw [hsz] at hn
 exact h2.setH 10 _ hn h2.B h2.C (fun ch e1 e2 e3 e4 e5 => ⟨by rw [Array.getElem?_setIfInBounds_self_of_lt (by omega)]; rfl, by rw [Array.getElem?_setIfInBounds_ne (by decide)]; exact e3, by rw [Array.getElem?_setIfInBounds_ne (by decide)]; exact e4, by rw [Array.getElem?_setIfInBounds_ne (by decide)]; exact e5⟩) (by omega)
theorem Bs.repB {w w1 : World} {a b c : Option (Nat × Nat)} {n : Nat} {x y z : ByteArray} (h : Bs w a b c n x y z w1) (m : Nat) :
  Bs w a (some (w1.heap.size, grownCap (w1.setCell ⟨w.heap.size + 1, 256, none⟩ (.slice (some ⟨w.heap.size, 0, none⟩) m 3)) 2 0 5)) c m x y z ((bw (w1.setCell ⟨w.heap.size + 1, 256, none⟩ (.slice (some ⟨w.heap.size, 0, none⟩) m 3)) ⟨#[92, 92]⟩).setCell ⟨w.heap.size + 1, 92, none⟩ (.slice (some ⟨w1.heap.size, 0, none⟩) 2 (grownCap (w1.setCell ⟨w.heap.size + 1, 256, none⟩ (.slice (some ⟨w.heap.size, 0, none⟩) m 3)) 2 0 5))) := by
 have h1 : Bs w a b c m x y z (w1.setCell ⟨w.heap.size + 1, 256, none⟩ (.slice (some ⟨w.heap.size, 0, none⟩) m 3)) :=
  h.setH 256 _ h.A h.B h.C (fun ch e1 e2 e3 e4 e5 => ⟨by rw [Array.getElem?_setIfInBounds_ne (by decide)]; exact e2, by rw [Array.getElem?_setIfInBounds_ne (by decide)]; exact e3, by rw [Array.getElem?_setIfInBounds_ne (by decide)]; exact e4, by rw [Array.getElem?_setIfInBounds_self_of_lt (by omega)]⟩) (by omega)
 have h2 := h1.bytes ⟨#[92, 92]⟩
 have hsz : (w1.setCell ⟨w.heap.size + 1, 256, none⟩ (.slice (some ⟨w.heap.size, 0, none⟩) m 3)).heap.size = w1.heap.size := by simp
 have hn := rlies_new w (w1.setCell ⟨w.heap.size + 1, 256, none⟩ (.slice (some ⟨w.heap.size, 0, none⟩) m 3)) 92 h1.lt
 rw [hsz] at hn
 exact h2.setH 92 _ h2.A hn h2.C (fun ch e1 e2 e3 e4 e5 => ⟨by rw [Array.getElem?_setIfInBounds_ne (by decide)]; exact e2, by rw [Array.getElem?_setIfInBounds_self_of_lt (by omega)]; rfl, by rw [Array.getElem?_setIfInBounds_ne (by decide)]; exact e4, by rw [Array.getElem?_setIfInBounds_ne (by decide)]; exact e5⟩) (by omega)
theorem Bs.repC {w w1 : World} {a b c : Option (Nat × Nat)} {n : Nat} {x y z : ByteArray} (h : Bs w a b c n x y z w1) (m : Nat) :
  Bs w a b (some (w1.heap.size, grownCap (w1.setCell ⟨w.heap.size + 1, 256, none⟩ (.slice (some ⟨w.heap.size, 0, none⟩) m 3)) 2 0 5)) m x y z ((bw (w1.setCell ⟨w.heap.size + 1, 256, none⟩ (.slice (some ⟨w.heap.size, 0, none⟩) m 3)) ⟨#[92, 34]⟩).setCell ⟨w.heap.size + 1, 34, none⟩ (.slice (some ⟨w1.heap.size, 0, none⟩) 2 (grownCap (w1.setCell ⟨w.heap.size + 1, 256, none⟩ (.slice (some ⟨w.heap.size, 0, none⟩) m 3)) 2 0 5))) := by
 have h1 : Bs w a b c m x y z (w1.setCell ⟨w.heap.size + 1, 256, none⟩ (.slice (some ⟨w.heap.size, 0, none⟩) m 3)) :=
  h.setH 256 _ h.A h.B h.C (fun ch e1 e2 e3 e4 e5 => ⟨by rw [Array.getElem?_setIfInBounds_ne (by decide)]; exact e2, by rw [Array.getElem?_setIfInBounds_ne (by decide)]; exact e3, by rw [Array.getElem?_setIfInBounds_ne (by decide)]; exact e4, by rw [Array.getElem?_setIfInBounds_self_of_lt (by omega)]⟩) (by omega)
 have h2 := h1.bytes ⟨#[92, 34]⟩
 have hsz : (w1.setCell ⟨w.heap.size + 1, 256, none⟩ (.slice (some ⟨w.heap.size, 0, none⟩) m 3)).heap.size = w1.heap.size := by simp
 have hn := rlies_new w (w1.setCell ⟨w.heap.size + 1, 256, none⟩ (.slice (some ⟨w.heap.size, 0, none⟩) m 3)) 34 h1.lt
 rw [hsz] at hn
 exact h2.setH 34 _ h2.A h2.B hn (fun ch e1 e2 e3 e4 e5 => ⟨by rw [Array.getElem?_setIfInBounds_ne (by decide)]; exact e2, by rw [Array.getElem?_setIfInBounds_ne (by decide)]; exact e3, by rw [Array.getElem?_setIfInBounds_self_of_lt (by omega)]; rfl, by rw [Array.getElem?_setIfInBounds_ne (by decide)]; exact e5⟩) (by omega)
theorem app_run {W : World} {T n : Nat} {cur : Array Value} (hT : W.heap[T]? = some (.cells cur 9 (0, 0))) (hs : cur.size = 3) (hn : n + 1 ≤ 3) (g : Nat) (s : ByteArray) (hg : W.cell? ⟨g, 0, none⟩ = some (.string s)) (ty : TypeId) :
  (Builtin.append_ #[55, 55] ty #[.slice (some ⟨T, 0, none⟩) n 3, .slice (some ⟨g, 0, none⟩) 1 1]).run Tryz.prog W = .ok (.slice (some ⟨T, 0, none⟩) (n + 1) 3) (W.setRow T (cur.toList.take n ++ [Value.string s] ++ cur.toList.drop (n + 1)).toArray) := by
 have hi : (Tryz.prog.info? 9).map (fun i => i.size) = some 1 := by kernel_rfl
 cases h : Tryz.prog.info? 9 with
 | none => simp [h] at hi
 | some i =>
  have hi : i.size = 1 := by simpa [h] using hi
  have := run_append_room (P := Tryz.prog) (w := W) 55 ty 9 i Tryz.underlying55 h T n 3 cur hT ⟨g, 0, none⟩ 1 1 [.string s] (by simp [hi]) (fun j u hj => by
   rcases j with _ | j
   ·
    simp at hj; subst hj; exact hg
   ·
    simp at hj) (by simp [Value.oneCell']) (by omega) (by simp [hi, hs]; omega)
  simpa [hi] using this
theorem wpList_append_run {P : Program} {ops : Array Oper} {rest : List Oper} {o : Oper} {a : Act} {w : World} {Q : Exit → Act → World → Prop} (hgd : o.guard = none) (s x : Operand) (t : TypeId)
  (ho : o.op = .call { callee := .builtin .append, args := #[s, x], argTypes := #[t, t] }) (v1 v2 : Value) (hs : a.eval s = v1) (hx : a.eval x = v2) (v' : Value) (w' : World)
  (hr : ∀ ty, (Builtin.append_ #[t, t] ty #[v1, v2]).run P w = .ok v' w') (Φ : World → Prop) (hΦ : Φ w') (h : ∀ w', Φ w' → wpList P ops Q rest (a.put o.dst v') w') : wpList P ops Q (o :: rest) a w := by
 refine wpList_plain hgd fun _ hK => ?_
 unfold Oper.wp execOp
 simp only [ho, resolve, invoke, builtin, Sem.run_bind, Sem.run_pure, Result.andThen_ok, List.map_toArray, List.map_cons, List.map_nil, hs, hx, hr]
 exact hK _ _ (h w' hΦ)
structure StopAt (p : Prop) : Prop where
  out : p
theorem rounds_gen {P : Program} {c : Code} {Q : Exit → Act → World → Prop} {n : Nat} {a : Act} {w : World} {Φ : World → Prop} (h : Φ w) (k : ∀ w', Φ w' → Code.rounds P c Q n a w') : Code.rounds P c Q n a w := k w h
set_option maxRecDepth 1000000 in
set_option maxHeartbeats 4000000 in
theorem build_any (g q c : Nat) (w : World) (hg : w.heap[g]? = some (.cells #[.int .u32 0, .int .i32 1, .int .u32 0, Value.nilIface, .slice (some ⟨q, 0, none⟩) 6 c] 169 (0, 0)))
  (q0 : w.cell? ⟨q, 0, none⟩ = some (.string ⟨#[34]⟩)) (q1 : w.cell? ⟨q, 1, none⟩ = some (.string ⟨#[92, 34]⟩))
  (q2 : w.cell? ⟨q, 2, none⟩ = some (.string ⟨#[92]⟩)) (q3 : w.cell? ⟨q, 3, none⟩ = some (.string ⟨#[92, 92]⟩))
  (q4 : w.cell? ⟨q, 4, none⟩ = some (.string ⟨#[10]⟩)) (q5 : w.cell? ⟨q, 5, none⟩ = some (.string ⟨#[92, 110]⟩)) :
  Calls Tryz.prog 156 #[.pointer (some ⟨g, 0, none⟩)] w fun e w' => e = .returned (.iface 229 (.pointer (some ⟨w.heap.size + 1, 0, none⟩))) ∧ ∃ gA gB gC, Bs w (some gA) (some gB) (some gC) 3 ⟨#[10]⟩ ⟨#[92]⟩ ⟨#[34]⟩ w' := by
 have h4 : w.cell? ⟨g, 4, none⟩ = some (.slice (some ⟨q, 0, none⟩) 6 c) := blk_cell hg 4
 have b0 : ∀ h, (((⟨#[34]⟩ : ByteArray)[0]'h).toNat : Int) = 34 := fun _ => rfl
 have b1 : ∀ h, (((⟨#[92]⟩ : ByteArray)[0]'h).toNat : Int) = 92 := fun _ => rfl
 have b2 : ∀ h, (((⟨#[10]⟩ : ByteArray)[0]'h).toNat : Int) = 10 := fun _ => rfl
 have s0 : (⟨#[34]⟩ : ByteArray).size = 1 := rfl
 have s1 : (⟨#[92, 34]⟩ : ByteArray).size = 2 := rfl
 have s2 : (⟨#[92]⟩ : ByteArray).size = 1 := rfl
 have s3 : (⟨#[92, 92]⟩ : ByteArray).size = 2 := rfl
 have s4 : (⟨#[10]⟩ : ByteArray).size = 1 := rfl
 have s5 : (⟨#[92, 110]⟩ : ByteArray).size = 2 := rfl
 have mk3 := make3
 have hz176 : Tryz.zeroCells228.size = 257 := by kernel_rfl
 have hnil : ∀ (a : Option Addr) (l c : Nat) (W : World), (binOp .eql 172 (.slice a l c) (.slice none 0 0)).run Tryz.prog W = .ok (.bool a.isNone) W := fun a l c W => by
  unfold binOp
  simp [Op.equal, Op.maxDepth, Lib.run_equalIn_slice_nil W 9999 172 5 a l c 0 0 Tryz.underlying172]
 have cv0 : ∀ W : World, (convert 172 9 (.slice (some ⟨W.heap.size, 0, none⟩) 1 1)).run Tryz.prog (W.alloc (.cells #[.int .u8 34] 5)) = .ok (.string ⟨#[34]⟩) (W.alloc (.cells #[.int .u8 34] 5)) := one_back 34
 have cv1 : ∀ W : World, (convert 172 9 (.slice (some ⟨W.heap.size, 0, none⟩) 1 1)).run Tryz.prog (W.alloc (.cells #[.int .u8 92] 5)) = .ok (.string ⟨#[92]⟩) (W.alloc (.cells #[.int .u8 92] 5)) := one_back 92
 have cv2 : ∀ W : World, (convert 172 9 (.slice (some ⟨W.heap.size, 0, none⟩) 1 1)).run Tryz.prog (W.alloc (.cells #[.int .u8 10] 5)) = .ok (.string ⟨#[10]⟩) (W.alloc (.cells #[.int .u8 10] 5)) := one_back 10
 have hbw := bw_run
 have hqlt : q < w.heap.size := lt_of_cell q0
 obtain ⟨cz, hcz⟩ : ∃ c, c = Tryz.zeroCells228.setIfInBounds 256 (.slice (some ⟨w.heap.size, 0, none⟩) 0 3) := ⟨_, rfl⟩
 obtain ⟨w1, hw1⟩ : ∃ x, x = (w.alloc (.cells #[.string ⟨#[]⟩, .string ⟨#[]⟩, .string ⟨#[]⟩] 9)).alloc (.cells cz 228) := ⟨_, rfl⟩
 have hst : Sem.run Tryz.prog (storeCells ⟨w.heap.size + 1, 0, none⟩ (Tryz.zeroCells228.toList.set 256 (.slice (some ⟨w.heap.size, 0, none⟩) 0 3))) ((w.alloc (.cells #[.string ⟨#[]⟩, .string ⟨#[]⟩, .string ⟨#[]⟩] 9)).alloc (.cells Tryz.zeroCells228 228)) = .ok () w1 := by
  have := run_storeCells_new (P := Tryz.prog) (w.alloc (.cells #[.string ⟨#[]⟩, .string ⟨#[]⟩, .string ⟨#[]⟩] 9)) 228 Tryz.zeroCells228 cz (by subst hcz; rw [Array.size_setIfInBounds]; kernel_rfl) (by subst hcz; rw [Array.size_setIfInBounds]) (by subst hcz; kernel_rfl)
  rw [hw1, ← this, hcz, Array.toList_setIfInBounds]
  rw [← alloc_size]
 have hs1 : w1.heap.size = w.heap.size + 2 := by subst hw1; rw [← alloc_size, ← alloc_size]
 have B1 : Bs w none none none 0 ⟨#[]⟩ ⟨#[]⟩ ⟨#[]⟩ w1 := by
  refine ⟨by omega, ?_, ⟨cz, ?_, ?_, ?_, ?_, ?_, ?_, ?_⟩, ?_, trivial, trivial, trivial⟩
  ·
   subst hw1; exact ((Below.refl _ _).alloc (Nat.le_refl _) _).alloc (by rw [← alloc_size]; omega) _
  ·
   subst hw1; rw [alloc_size]; exact heap_alloc_new _ _
  ·
   subst hcz; rw [Array.size_setIfInBounds, hz176]
  ·
   subst hcz; rw [Array.getElem?_setIfInBounds_ne (by decide)]; kernel_rfl
  ·
   subst hcz; rw [Array.getElem?_setIfInBounds_ne (by decide)]; kernel_rfl
  ·
   subst hcz; rw [Array.getElem?_setIfInBounds_ne (by decide)]; kernel_rfl
  ·
   subst hcz; rw [Array.getElem?_setIfInBounds_self_of_lt (by rw [hz176]; omega)]
  ·
   intro i i1 i2 i3 i4
   subst hcz; rw [Array.getElem?_setIfInBounds_ne (by omega)]
   have hall : (List.range 256).all (fun i => match Tryz.zeroCells228[i]? with | some (.slice none 0 0) => true | _ => false) = true := by kernel_rfl
   have := List.all_eq_true.1 hall i (List.mem_range.2 i1)
   split at this
   ·
    assumption
   ·
    exact absurd this (by simp)
  ·
   subst hw1; exact (Below.heap_alloc _ _ _ (by rw [← alloc_size]; omega)).trans (heap_alloc_new _ _)
 have HB1 := Aside0.mk B1
 clear hw1 hcz hs1 B1
 have HG := Aside0.mk hg
 have HB := Aside0.mk (Below.refl w.heap.size w)
 clear hg
 go_enter Tryz.func156, Tryz.ntmps156
 go_wp2_with fail
 refine wp_loop_rounds 4 ?_; rw [rounds_succ]
 go_wp2_with fail
 rw [rounds_succ]
 go_wp2_with fail
 rw [rounds_succ]
 go_wp2_with fail
 rw [rounds_succ]
 go_wp2_with fail
 refine wp_loop_rounds 4 ?_
 refine rounds_gen HB1.out ?_
 rintro v1 B1
 rw [rounds_succ]
 have r0a := (B1.bel.cell (p := ⟨q, 4, none⟩) hqlt).trans q4
 have r0b := (B1.bel.cell (p := ⟨q, 5, none⟩) hqlt).trans q5
 obtain ⟨ch, e, e1, e2, e3, e4, e5, e6⟩ := B1.H
 have cA := (blk_cell e 10).trans e2
 have cT := (blk_cell e 256).trans e5
 have lt1 := B1.lt
 simp only [repl] at cA
 have HB2 := Aside0.mk B1
 clear B1 e e1 e2 e3 e4 e5 e6
 go_wp2_with (at_builtin; refine wpList_append_run rfl (.tmp 119) (.tmp 123) 55 rfl _ _ rfl rfl _ _ (app_run ((HB2.out.alloc _).alloc _).T rfl (by decide) _ ⟨#[10]⟩ (World.cell?_alloc_at _ _ _ _ (alloc_size _ _))) (Bs w none none none 0 ⟨#[10]⟩ ⟨#[]⟩ ⟨#[]⟩) ((HB2.out.alloc _).alloc _).setT ?_; intro w2 B2; apply StopAt.out)
 apply StopAt.mk
 obtain ⟨ch2, e, e1, e2, e3, e4, e5, e6⟩ := B2.H
 have lt2 := B2.lt
 have d10 := (blk_cell e 10).trans e2
 have d256 := (blk_cell e 256).trans e5
 have f10 := blk_frozen e 10
 have f256 := blk_frozen e 256
 have o10 : (bw (w2.setCell ⟨w.heap.size + 1, 256, none⟩ (.slice (some ⟨w.heap.size, 0, none⟩) 1 3)) ⟨#[92, 110]⟩).cell? ⟨w.heap.size + 1, 10, none⟩ = some (repl none) := (bw_old _ _ _ _ (by simp; omega)).trans ((World.cell?_setCell_other _ _ _ _ (by simp)).trans d10)
 have o10f : (bw (w2.setCell ⟨w.heap.size + 1, 256, none⟩ (.slice (some ⟨w.heap.size, 0, none⟩) 1 3)) ⟨#[92, 110]⟩).frozen? ⟨w.heap.size + 1, 10, none⟩ = false := (bw_oldF _ _ _ _ (by simp; omega)).trans (by simp [f10])
 have HB3 := Aside0.mk B2
 clear B2 e e1 e2 e3 e4 e5 e6 HB2 cA cT lt1 r0a r0b
 go_wp2_with fail
 have B4 := HB3.out.repA 1
 refine rounds_gen (Φ := fun v => Bs w (some (w2.heap.size, grownCap (w2.setCell ⟨w.heap.size + 1, 256, none⟩ (.slice (some ⟨w.heap.size, 0, none⟩) 1 3)) 2 0 5)) none none 1 ⟨#[10]⟩ ⟨#[]⟩ ⟨#[]⟩ v) B4 ?_
 clear B4 lt2 d10 d256 f10 f256 o10 o10f HB3
 obtain ⟨gA, hgA⟩ : ∃ g, g = (w2.heap.size, grownCap (w2.setCell ⟨w.heap.size + 1, 256, none⟩ (.slice (some ⟨w.heap.size, 0, none⟩) 1 3)) 2 0 5) := ⟨_, rfl⟩
 rw [← hgA]
 clear hgA
 rintro v2 B1
 rw [rounds_succ]
 have r1a := (B1.bel.cell (p := ⟨q, 2, none⟩) hqlt).trans q2
 have r1b := (B1.bel.cell (p := ⟨q, 3, none⟩) hqlt).trans q3
 obtain ⟨ch, e, e1, e2, e3, e4, e5, e6⟩ := B1.H
 have cA := (blk_cell e 92).trans e3
 have cT := (blk_cell e 256).trans e5
 have lt1 := B1.lt
 simp only [repl] at cA
 have HB2 := Aside0.mk B1
 clear B1 e e1 e2 e3 e4 e5 e6
 go_wp2_with (at_builtin; refine wpList_append_run rfl (.tmp 119) (.tmp 123) 55 rfl _ _ rfl rfl _ _ (app_run ((HB2.out.alloc _).alloc _).T rfl (by decide) _ ⟨#[92]⟩ (World.cell?_alloc_at _ _ _ _ (alloc_size _ _))) (Bs w (some gA) none none 1 ⟨#[10]⟩ ⟨#[92]⟩ ⟨#[]⟩) ((HB2.out.alloc _).alloc _).setT ?_; intro w2 B2; apply StopAt.out)
 apply StopAt.mk
 obtain ⟨ch2, e, e1, e2, e3, e4, e5, e6⟩ := B2.H
 have lt2 := B2.lt
 have d10 := (blk_cell e 92).trans e3
 have d256 := (blk_cell e 256).trans e5
 have f10 := blk_frozen e 92
 have f256 := blk_frozen e 256
 have o10 : (bw (w2.setCell ⟨w.heap.size + 1, 256, none⟩ (.slice (some ⟨w.heap.size, 0, none⟩) 2 3)) ⟨#[92, 92]⟩).cell? ⟨w.heap.size + 1, 92, none⟩ = some (repl none) := (bw_old _ _ _ _ (by simp; omega)).trans ((World.cell?_setCell_other _ _ _ _ (by simp)).trans d10)
 have o10f : (bw (w2.setCell ⟨w.heap.size + 1, 256, none⟩ (.slice (some ⟨w.heap.size, 0, none⟩) 2 3)) ⟨#[92, 92]⟩).frozen? ⟨w.heap.size + 1, 92, none⟩ = false := (bw_oldF _ _ _ _ (by simp; omega)).trans (by simp [f10])
 have HB3 := Aside0.mk B2
 clear B2 e e1 e2 e3 e4 e5 e6 HB2 cA cT lt1 r1a r1b
 go_wp2_with fail
 have B4 := HB3.out.repB 2
 refine rounds_gen (Φ := fun v => Bs w (some gA) (some (w2.heap.size, grownCap (w2.setCell ⟨w.heap.size + 1, 256, none⟩ (.slice (some ⟨w.heap.size, 0, none⟩) 2 3)) 2 0 5)) none 2 ⟨#[10]⟩ ⟨#[92]⟩ ⟨#[]⟩ v) B4 ?_
 clear B4 lt2 d10 d256 f10 f256 o10 o10f HB3
 obtain ⟨gB, hgB⟩ : ∃ g, g = (w2.heap.size, grownCap (w2.setCell ⟨w.heap.size + 1, 256, none⟩ (.slice (some ⟨w.heap.size, 0, none⟩) 2 3)) 2 0 5) := ⟨_, rfl⟩
 rw [← hgB]
 clear hgB
 rintro v3 B1
 rw [rounds_succ]
 have r2a := (B1.bel.cell (p := ⟨q, 0, none⟩) hqlt).trans q0
 have r2b := (B1.bel.cell (p := ⟨q, 1, none⟩) hqlt).trans q1
 obtain ⟨ch, e, e1, e2, e3, e4, e5, e6⟩ := B1.H
 have cA := (blk_cell e 34).trans e4
 have cT := (blk_cell e 256).trans e5
 have lt1 := B1.lt
 simp only [repl] at cA
 have HB2 := Aside0.mk B1
 clear B1 e e1 e2 e3 e4 e5 e6
 go_wp2_with (at_builtin; refine wpList_append_run rfl (.tmp 119) (.tmp 123) 55 rfl _ _ rfl rfl _ _ (app_run ((HB2.out.alloc _).alloc _).T rfl (by decide) _ ⟨#[34]⟩ (World.cell?_alloc_at _ _ _ _ (alloc_size _ _))) (Bs w (some gA) (some gB) none 2 ⟨#[10]⟩ ⟨#[92]⟩ ⟨#[34]⟩) ((HB2.out.alloc _).alloc _).setT ?_; intro w2 B2; apply StopAt.out)
 apply StopAt.mk
 obtain ⟨ch2, e, e1, e2, e3, e4, e5, e6⟩ := B2.H
 have lt2 := B2.lt
 have d10 := (blk_cell e 34).trans e4
 have d256 := (blk_cell e 256).trans e5
 have f10 := blk_frozen e 34
 have f256 := blk_frozen e 256
 have o10 : (bw (w2.setCell ⟨w.heap.size + 1, 256, none⟩ (.slice (some ⟨w.heap.size, 0, none⟩) 3 3)) ⟨#[92, 34]⟩).cell? ⟨w.heap.size + 1, 34, none⟩ = some (repl none) := (bw_old _ _ _ _ (by simp; omega)).trans ((World.cell?_setCell_other _ _ _ _ (by simp)).trans d10)
 have o10f : (bw (w2.setCell ⟨w.heap.size + 1, 256, none⟩ (.slice (some ⟨w.heap.size, 0, none⟩) 3 3)) ⟨#[92, 34]⟩).frozen? ⟨w.heap.size + 1, 34, none⟩ = false := (bw_oldF _ _ _ _ (by simp; omega)).trans (by simp [f10])
 have HB3 := Aside0.mk B2
 clear B2 e e1 e2 e3 e4 e5 e6 HB2 cA cT lt1 r2a r2b
 go_wp2_with fail
 have B4 := HB3.out.repC 3
 refine rounds_gen (Φ := fun v => Bs w (some gA) (some gB) (some (w2.heap.size, grownCap (w2.setCell ⟨w.heap.size + 1, 256, none⟩ (.slice (some ⟨w.heap.size, 0, none⟩) 3 3)) 2 0 5)) 3 ⟨#[10]⟩ ⟨#[92]⟩ ⟨#[34]⟩ v) B4 ?_
 clear B4 lt2 d10 d256 f10 f256 o10 o10f HB3
 obtain ⟨gC, hgC⟩ : ∃ g, g = (w2.heap.size, grownCap (w2.setCell ⟨w.heap.size + 1, 256, none⟩ (.slice (some ⟨w.heap.size, 0, none⟩) 3 3)) 2 0 5) := ⟨_, rfl⟩
 rw [← hgC]
 clear hgC
 rintro v4 B1
 rw [rounds_succ]
 have HB2 := Aside0.mk B1
 clear B1
 go_wp2_with fail
 go_ret
 exact ⟨rfl, gA, gB, gC, HB2.out⟩
end Go.Proofs.YtefeibndnghejaaGreatDoor.Pr
end
section
set_option linter.unusedVariables false
set_option linter.unusedSimpArgs false
namespace Go.Proofs.YtefeibndnghejaaGreatDoor.Pr
open Go.RowKit Go.Proofs.YtefeibndnghejaaGreatDoorW.PrintWords Go.Proofs.YtefeibndnghejaaGreatDoorW.PrintLast Go.Proofs.YtefeibndnghejaaGreatDoorW.PrintMore
def two (T : Nat) (W : World) (k : Nat) (v : Option Value) : Prop := ∃ g c, v = some (.slice (some ⟨g, 0, none⟩) 2 c) ∧ T + 1 < g ∧ g < W.heap.size ∧ 2 ≤ c ∧ W.cell? ⟨g, 0, none⟩ = some (.int .u8 92) ∧ W.cell? ⟨g, 1, none⟩ = some (.int .u8 (k : Int))
def Ws (T : Nat) (W : World) : Prop := ∃ ch, W.heap[T + 1]? = some (.cells ch 228 (0, 0)) ∧ T + 1 < W.heap.size ∧ two T W 110 ch[10]? ∧ two T W 92 ch[92]? ∧ two T W 34 ch[34]? ∧
  ch[256]? = some (.slice (some ⟨T, 0, none⟩) 3 3) ∧ (∀ i, i < 256 → i ≠ 10 → i ≠ 92 → i ≠ 34 → ch[i]? = some (.slice none 0 0)) ∧ W.heap[T]? = some (.cells #[.string ⟨#[10]⟩, .string ⟨#[92]⟩, .string ⟨#[34]⟩] 9 (0, 0))
theorem two_far {T k : Nat} {W W' : World} {v : Option Value} (h : two T W k v) (hs : W.heap.size ≤ W'.heap.size) (hk : ∀ i, T ≤ i → i < W.heap.size → W'.heap[i]? = W.heap[i]?) : two T W' k v := by
 obtain ⟨g, c, e, a1, a2, a3, a4, a5⟩ := h
 exact ⟨g, c, e, a1, by omega, a3, (World.cell?_of_block (w := W) (hk g (by omega) a2)).trans a4, (World.cell?_of_block (w := W) (hk g (by omega) a2)).trans a5⟩
theorem Ws.far {T : Nat} {W W' : World} (h : Ws T W) (hs : W.heap.size ≤ W'.heap.size) (hk : ∀ i, T ≤ i → i < W.heap.size → W'.heap[i]? = W.heap[i]?) : Ws T W' := by
 obtain ⟨ch, e, lt, a, b, c, d, f, t⟩ := h
 exact ⟨ch, (hk _ (by omega) lt).trans e, by omega, two_far a hs hk, two_far b hs hk, two_far c hs hk, d, f, (hk _ (by omega) (by omega)).trans t⟩
theorem Bs.ws {w w' : World} {gA gB gC : Nat × Nat} (h : Bs w (some gA) (some gB) (some gC) 3 ⟨#[10]⟩ ⟨#[92]⟩ ⟨#[34]⟩ w') : Ws w.heap.size w' := by
 obtain ⟨ch, e, e1, e2, e3, e4, e5, e6⟩ := h.H
 obtain ⟨a1, a2, a3, a4, a5⟩ := h.A
 obtain ⟨b1, b2, b3, b4, b5⟩ := h.B
 obtain ⟨c1, c2, c3, c4, c5⟩ := h.C
 exact ⟨ch, e, h.lt, ⟨_, _, e2, a1, a2, a3, a4, a5⟩, ⟨_, _, e3, b1, b2, b3, b4, b5⟩, ⟨_, _, e4, c1, c2, c3, c4, c5⟩, e5, e6, h.T⟩
def RR (w0 : World) (g T : Nat) (W : World) : Prop := Below w0.heap.size w0 W ∧ Ws T W
theorem RR.set {w0 : World} {g T : Nat} {W : World} (h : RR w0 g T W) (hg : w0.heap.size ≤ g) (hT : g < T) (j : Nat) (u : Value) : RR w0 g T (W.setCell ⟨g, j, none⟩ u) :=
 ⟨h.1.setCell hg _, h.2.far (by simp) fun i hi _ => Below.heap_setCell _ _ _ _ (by show i ≠ g; omega)⟩
theorem RR.drew {w0 : World} {g T : Nat} {W : World} (h : RR w0 g T W) : RR w0 g T W.drew := ⟨h.1.drew, h.2.far (Nat.le_refl _) fun i _ _ => rfl⟩
set_option maxRecDepth 1000000 in
set_option maxHeartbeats 4000000 in
theorem once_any (w0 : World) (g q c : Nat) (w : World) (hg : w.heap[g]? = some (.cells #[.int .u32 0, .int .i32 1, .int .u32 0, Value.nilIface, .slice (some ⟨q, 0, none⟩) 6 c] 169 (0, 0)))
  (q0 : w.cell? ⟨q, 0, none⟩ = some (.string ⟨#[34]⟩)) (q1 : w.cell? ⟨q, 1, none⟩ = some (.string ⟨#[92, 34]⟩))
  (q2 : w.cell? ⟨q, 2, none⟩ = some (.string ⟨#[92]⟩)) (q3 : w.cell? ⟨q, 3, none⟩ = some (.string ⟨#[92, 92]⟩))
  (q4 : w.cell? ⟨q, 4, none⟩ = some (.string ⟨#[10]⟩)) (q5 : w.cell? ⟨q, 5, none⟩ = some (.string ⟨#[92, 110]⟩)) (hn : w0.heap.size ≤ g) (hb : Below w0.heap.size w0 w) :
  Calls Tryz.prog 122 #[.pointer (some ⟨g, 0, none⟩)] w fun e w' => e = .returned (.tuple #[]) ∧
   w'.heap[g]? = some (.cells #[.int .u32 0, .int .i32 1, .int .u32 0, .iface 229 (.pointer (some ⟨w.heap.size + 1, 0, none⟩)), .slice none 0 0] 169 (0, 0)) ∧ RR w0 g w.heap.size w' := by
 have hlt : g < w.heap.size := (Array.getElem?_eq_some_iff.1 hg).1
 have H := Aside0.mk (build_any g q c w hg q0 q1 q2 q3 q4 q5)
 have HG := Aside0.mk hg
 have HB := Aside0.mk hb
 clear hg q0 q1 q2 q3 q4 q5 hb
 go_enter Tryz.func122, Tryz.ntmps122
 go_wp2_with (go_at_call 156; refine H.out.mono ?_; rintro e w1 ⟨rfl, gA, gB, gC, B1⟩; apply StopAt.out)
 apply StopAt.mk
 have bg : w1.heap[g]? = _ := (B1.bel.block g hlt).trans HG.out
 have c3 := blk_cell bg 3
 have c4 := blk_cell bg 4
 have f3 := blk_frozen bg 3
 have f4 := blk_frozen bg 4
 have b3 := blk_set bg 3 (.iface 229 (.pointer (some ⟨w.heap.size + 1, 0, none⟩)))
 have b4 := blk_set b3 4 (.slice none 0 0)
 have hR : RR w0 g w.heap.size w1 := ⟨HB.out.trans (B1.bel.mono (by have := HB.out.size; omega)), B1.ws⟩
 have HR := Aside0.mk ((hR.set hn hlt 3 (.iface 229 (.pointer (some ⟨w.heap.size + 1, 0, none⟩)))).set hn hlt 4 (.slice none 0 0))
 have B4 := Aside0.mk b4
 clear B1 bg b3 b4 hR
 simp at c3 c4
 go_wp2_with fail
 go_end0
 exact ⟨rfl, B4.out, HR.out⟩
set_option maxRecDepth 1000000 in
set_option maxHeartbeats 4000000 in
theorem do_first (w0 : World) (g q c : Nat) (w : World) (hg : w.heap[g]? = some (.cells #[.int .u32 0, .int .i32 0, .int .u32 0, Value.nilIface, .slice (some ⟨q, 0, none⟩) 6 c] 169 (0, 0)))
  (q0 : w.cell? ⟨q, 0, none⟩ = some (.string ⟨#[34]⟩)) (q1 : w.cell? ⟨q, 1, none⟩ = some (.string ⟨#[92, 34]⟩))
  (q2 : w.cell? ⟨q, 2, none⟩ = some (.string ⟨#[92]⟩)) (q3 : w.cell? ⟨q, 3, none⟩ = some (.string ⟨#[92, 92]⟩))
  (q4 : w.cell? ⟨q, 4, none⟩ = some (.string ⟨#[10]⟩)) (q5 : w.cell? ⟨q, 5, none⟩ = some (.string ⟨#[92, 110]⟩)) (hqg : q ≠ g) (hn : w0.heap.size ≤ g) (hb : Below w0.heap.size w0 w) :
  Calls Tryz.prog 121 #[.pointer (some ⟨g, 0, none⟩), .func (.func 122) #[.pointer (some ⟨g, 0, none⟩)] #[]] w fun e w' => e = .returned (.tuple #[]) ∧
   w'.heap[g]? = some (.cells #[.int .u32 1, .int .i32 0, .int .u32 0, .iface 229 (.pointer (some ⟨w.heap.size + 1, 0, none⟩)), .slice none 0 0] 169 (0, 0)) ∧ RR w0 g w.heap.size w' := by
 have hlt : g < w.heap.size := (Array.getElem?_eq_some_iff.1 hg).1
 have hsz : (w.setCell ⟨g, 1, none⟩ (.int .i32 1)).heap.size = w.heap.size := by simp
 have hk : ∀ i, (w.setCell ⟨g, 1, none⟩ (.int .i32 1)).cell? ⟨q, i, none⟩ = w.cell? ⟨q, i, none⟩ := fun i => World.cell?_setCell_other _ _ _ _ (by simp [hqg])
 have hF := once_any w0 g q c (w.setCell ⟨g, 1, none⟩ (.int .i32 1)) (blk_set hg 1 _) ((hk 0).trans q0) ((hk 1).trans q1) ((hk 2).trans q2) ((hk 3).trans q3) ((hk 4).trans q4) ((hk 5).trans q5) hn (hb.setCell hn _)
 rw [hsz] at hF
 have HS := Aside0.mk (slow_any g _ _ _ _ w (RR w0 g w.heap.size) hg hF (fun W j u h => h.set hn hlt j u) (fun W h => h.drew))
 have hl := run_call_load (P := Tryz.prog) Tryz.func173 (by kernel_rfl) (by kernel_rfl) (by kernel_rfl) .u32 (by kernel_rfl) (w := w) (a := ⟨g, 0, none⟩) (x := 0) (blk_cell hg 0)
 have hnot : ∀ (x : Bool) (w : World), (Op.unary .not (.bool x)).run Tryz.prog w = .ok (.bool (!x)) w := fun _ _ => rfl
 clear hF hg q0 q1 q2 q3 q4 q5 hk hb hsz
 go_enter Tryz.func121, Tryz.ntmps121
 go_wp2_with (first | (go_at_call 155; refine HS.out.mono ?_; rintro e w' ⟨rfl, B5, R5⟩; have B6 := Aside0.mk B5; have R6 := Aside0.mk R5; clear B5 R5) | (go_at_call 154; go_in))
 go_end0
 exact ⟨rfl, B6.out, R6.out⟩
end Go.Proofs.YtefeibndnghejaaGreatDoor.Pr
end
section
namespace Go.Proofs
open Go.Shelf
def Tryz.lays156_ren : Go.Shelf.Ren := ⟨fun | 156 => 106 | 165 => 124 | 166 => 125 | 169 => 126 | 240 => 157 | 241 => 158 | 276 => 179 | 277 => 180 | n => n, fun | 31 => 55 | 9 => 9 | 3 => 3 | 4 => 4 | 0 => 0 | 20 => 20 | 72 => 174 | 76 => 178 | 70 => 171 | 37 => 172 | 75 => 177 | 127 => 200 | 164 => 230 | 5 => 5 | 80 => 180 | n => n, fun | n => n⟩
theorem Tryz.lays156 : Go.Proofs.Lays.n156 Tryz.prog Tryz.lays156_ren := {
 mixed := by kernel_rfl
 f156 := Tryz.func106.trans (congrArg some (by kernel_rfl))
 f165 := Tryz.func124.trans (congrArg some (by kernel_rfl))
 f166 := Tryz.func125.trans (congrArg some (by kernel_rfl))
 f169 := Tryz.func126.trans (congrArg some (by kernel_rfl))
 f240 := Tryz.func157.trans (congrArg some (by kernel_rfl))
 f241 := Tryz.func158.trans (congrArg some (by kernel_rfl))
 f276 := Tryz.func179.trans (congrArg some (by kernel_rfl))
 f277 := Tryz.func180.trans (congrArg some (by kernel_rfl))
 t0 := Tryz.underlying0
 a0 := Tryz.isAgg0
 z0 := Tryz.sizeOf0
 v0 := Tryz.zeroValue0
 t3 := Tryz.underlying3
 a3 := Tryz.isAgg3
 z3 := Tryz.sizeOf3
 v3 := Tryz.zeroValue3
 t4 := Tryz.underlying4
 a4 := Tryz.isAgg4
 z4 := Tryz.sizeOf4
 v4 := Tryz.zeroValue4
 t9 := Tryz.underlying9
 a9 := Tryz.isAgg9
 z9 := Tryz.sizeOf9
 v9 := Tryz.zeroValue9
 t20 := Tryz.underlying20
 a20 := Tryz.isAgg20
 z20 := Tryz.sizeOf20
 v20 := Tryz.zeroValue20
 t31 := Tryz.underlying55
 a31 := Tryz.isAgg55
 z31 := Tryz.sizeOf55
 v31 := Tryz.zeroValue55
 t37 := Tryz.underlying172
 a37 := Tryz.isAgg172
 z37 := Tryz.sizeOf172
 v37 := Tryz.zeroValue172
 t70 := Tryz.underlying171
 a70 := Tryz.isAgg171
 z70 := Tryz.sizeOf171
 v70 := Tryz.zeroValue171
 t72 := Tryz.underlying174
 a72 := Tryz.isAgg174
 z72 := Tryz.sizeOf174
 v72 := Tryz.zeroValue174
 t75 := Tryz.underlying177
 a75 := Tryz.isAgg177
 z75 := Tryz.sizeOf177
 v75 := Tryz.zeroValue177
 t76 := Tryz.underlying178
 a76 := Tryz.isAgg178
 z76 := Tryz.sizeOf178
 v76 := Tryz.zeroValue178
 t127 := Tryz.underlying200
 a127 := Tryz.isAgg200
 z127 := Tryz.sizeOf200
 v127 := Tryz.zeroValue200
 t164 := Tryz.underlying230
 a164 := Tryz.isAgg230
 z164 := Tryz.sizeOf230
 v164 := Tryz.zeroValue230 }
theorem Tryz.Builder_Extra_156 : Builder.Extra Tryz.prog Tryz.lays156_ren := {
 sizeBuilder := by kernel_rfl
 liesBuilder := by kernel_rfl
 t5 := Tryz.underlying5
 a5 := Tryz.isAgg5
 z5 := Tryz.sizeOf5
 v5 := Tryz.zeroValue5
 infoByte := by kernel_rfl
 cellsByte := by kernel_rfl
 sizeByte := by kernel_rfl
 neB5 := by decide }
open Go.RowKit in
theorem Tryz.strings_Join_none (a : Option Addr) (c : Nat) (sep : ByteArray) (w : World) :
  Calls Tryz.prog 106 #[.slice a 0 c, .string sep] w fun e w' => e = .returned (.string ⟨#[]⟩) ∧ w' = w := Any.strings_Join_none Tryz.lays156 Tryz.Builder_Extra_156 a c sep w
open Go.RowKit in
theorem Tryz.strings_Join (bk o c : Nat) (xs : List ByteArray) (sep : ByteArray) (w : World) (hcells : ∀ (j : Nat) x, xs[j]? = some x → w.cell? ⟨bk, o + j, none⟩ = some (.string x)) (hbk : bk < w.heap.size) (hN : xs.length ≤ 140737488355328) (hcap : xs.length ≤ c) (hlen : (Lib.join (xs.map (·.data.toList)) sep.data.toList).length ≤ 140737488355328) :
  Calls Tryz.prog 106 #[.slice (some ⟨bk, o, none⟩) xs.length c, .string sep] w fun e w' => e = .returned (.string ⟨(Lib.join (xs.map (·.data.toList)) sep.data.toList).toArray⟩) ∧ Below w.heap.size w w' := Any.strings_Join Tryz.lays156 Tryz.Builder_Extra_156 bk o c xs sep w hcells hbk hN hcap hlen
def Tryz.lays138_ren : Go.Shelf.Ren := ⟨fun | 138 => 234 | 195 => 235 | 218 => 236 | 143 => 90 | 219 => 111 | 217 => 129 | 225 => 130 | 224 => 131 | 267 => 132 | 266 => 160 | 314 => 161 | n => n, fun | 9 => 9 | 3 => 3 | 4 => 4 | 5 => 5 | 0 => 0 | 46 => 151 | 146 => 201 | 51 => 157 | n => n, fun | 1 => 0 | n => n⟩
theorem Tryz.lays138 : Go.Proofs.Lays.n138 Tryz.prog Tryz.lays138_ren := {
 mixed := by kernel_rfl
 f138 := Tryz.func234.trans (congrArg some (by kernel_rfl))
 f143 := Tryz.func90.trans (congrArg some (by kernel_rfl))
 f195 := Tryz.func235.trans (congrArg some (by kernel_rfl))
 f217 := Tryz.func129.trans (congrArg some (by kernel_rfl))
 f218 := Tryz.func236.trans (congrArg some (by kernel_rfl))
 f219 := Tryz.func111.trans (congrArg some (by kernel_rfl))
 f224 := Tryz.func131.trans (congrArg some (by kernel_rfl))
 f225 := Tryz.func130.trans (congrArg some (by kernel_rfl))
 f266 := Tryz.func160.trans (congrArg some (by kernel_rfl))
 f267 := Tryz.func132.trans (congrArg some (by kernel_rfl))
 f314 := Tryz.func161.trans (congrArg some (by kernel_rfl))
 t0 := Tryz.underlying0
 a0 := Tryz.isAgg0
 z0 := Tryz.sizeOf0
 v0 := Tryz.zeroValue0
 t3 := Tryz.underlying3
 a3 := Tryz.isAgg3
 z3 := Tryz.sizeOf3
 v3 := Tryz.zeroValue3
 t4 := Tryz.underlying4
 a4 := Tryz.isAgg4
 z4 := Tryz.sizeOf4
 v4 := Tryz.zeroValue4
 t5 := Tryz.underlying5
 a5 := Tryz.isAgg5
 z5 := Tryz.sizeOf5
 v5 := Tryz.zeroValue5
 t9 := Tryz.underlying9
 a9 := Tryz.isAgg9
 z9 := Tryz.sizeOf9
 v9 := Tryz.zeroValue9
 t46 := Tryz.underlying151
 a46 := Tryz.isAgg151
 z46 := Tryz.sizeOf151
 v46 := Tryz.zeroValue151
 t51 := Tryz.underlying157
 a51 := Tryz.isAgg157
 z51 := Tryz.sizeOf157
 v51 := Tryz.zeroValue157
 t146 := Tryz.underlying201
 a146 := Tryz.isAgg201
 z146 := Tryz.sizeOf201
 v146 := Tryz.zeroValue201
 g1 := by kernel_rfl }
open Go.RowKit Go.Lib in
theorem Tryz.strings_Count_one (s : ByteArray) (c : UInt8) (w : World) :
  Calls Tryz.prog 234 #[.string s, .string ⟨#[c]⟩] w fun e w' => e = .returned (.int .i64 (Lib.countByte s.data.toList c)) ∧ w' = w := Any.strings_Count_one Tryz.lays138 s c w
end Go.Proofs
end
