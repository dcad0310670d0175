import Derived.Test.YtkedidjjhhjdbaaGreatDoorBc0
import Derived.Test.YtkedidjjhhjdbaaGreatDoorBc13
section
set_option linter.unusedVariables false
set_option linter.unusedSimpArgs false
namespace Go.Proofs.YtkedidjjhhjdbaaGreatDoor.Pr
open Go.RowKit Go.Proofs.YtkedidjjhhjdbaaGreatDoorW.PrintWords Go.Proofs.YtkedidjjhhjdbaaGreatDoorW.PrintLast Go.Proofs.YtkedidjjhhjdbaaGreatDoorW.PrintMore
set_option maxRecDepth 1000000 in
set_option maxHeartbeats 4000000 in
theorem replace_plain (w0 : World) (g q c : Nat) (s : ByteArray) (w : World) (hg : w.heap[g]? = some (.cells #[.int .u32 0, .int .i32 0, .int .u32 0, Value.nilIface, .slice (some ⟨q, 0, none⟩) 6 c] 188 (0, 0)))
  (q0 : w.cell? ⟨q, 0, none⟩ = some (.string ⟨#[34]⟩)) (q1 : w.cell? ⟨q, 1, none⟩ = some (.string ⟨#[92, 34]⟩))
  (q2 : w.cell? ⟨q, 2, none⟩ = some (.string ⟨#[92]⟩)) (q3 : w.cell? ⟨q, 3, none⟩ = some (.string ⟨#[92, 92]⟩))
  (q4 : w.cell? ⟨q, 4, none⟩ = some (.string ⟨#[10]⟩)) (q5 : w.cell? ⟨q, 5, none⟩ = some (.string ⟨#[92, 110]⟩)) (hqg : q ≠ g) (hn : w0.heap.size ≤ g) (hb : Below w0.heap.size w0 w) (hs : s.size < 4294967281) :
  Calls Tryz.prog 132 #[.pointer (some ⟨g, 0, none⟩), .string s] w fun e w' => e = .returned (.string ⟨(escL s.data.toList).toArray⟩) ∧ Below w0.heap.size w0 w' := by
 have H := Aside0.mk (do_first w0 g q c w hg q0 q1 q2 q3 q4 q5 hqg hn hb)
 have hmf : ∀ (fn : Fn) (first cap : Array Value) (w : World), (Instr.makeFunc fn first cap).run Tryz.prog w = .ok (.func fn first cap) w := fun _ _ _ _ => rfl
 have hm : ∀ (b off : Nat) (W : World), (method 369 216 (.pointer (some ⟨b, off, none⟩)) "Replace").run Tryz.prog W = .ok (227, .pointer (some ⟨b, off, none⟩)) W := fun _ _ _ => by kernel_rfl
 clear hg q0 q1 q2 q3 q4 q5 hqg hb
 go_enter Tryz.func132, Tryz.ntmps132
 go_wp2_with (first | (go_at_call 152; refine H.out.mono ?_; rintro e w1 ⟨rfl, B1, R1⟩; have c3 := blk_cell B1 3; simp at c3; have HR := Aside0.mk R1; clear B1 R1) | (go_at_call 227; refine (bsr_any _ s _ HR.out.2 hs).mono ?_; rintro e w2 ⟨rfl, hb2⟩; have HB2 := Aside0.mk hb2; clear hb2))
 go_ret
 exact ⟨rfl, HR.out.1.trans (HB2.out.mono HR.out.1.size)⟩
def six : List Value := [.string ⟨#[34]⟩, .string ⟨#[92, 34]⟩, .string ⟨#[92]⟩, .string ⟨#[92, 92]⟩, .string ⟨#[10]⟩, .string ⟨#[92, 110]⟩]
theorem app6 {W : World} {b : Nat} (h : W.heap[b]? = some (.cells six.toArray 9 (0, 0))) :
  ∃ z, ∀ ty, (Builtin.append_ #[29, 29] ty #[.slice none 0 0, .slice (some ⟨b, 0, none⟩) 6 6]).run Tryz.prog W = .ok (.slice (some ⟨W.heap.size, 0, none⟩) 6 (grownCap W 6 0 9)) (W.drew.alloc (.cells (six.toArray ++ z) 9)) := by
 have hi : (Tryz.prog.info? 9).map (fun i => (i.zero, i.size, i.bytes)) = some (some (.string ⟨#[]⟩), 1, 16) := by kernel_rfl
 cases h' : Tryz.prog.info? 9 with
 | none => simp [h'] at hi
 | some i =>
  simp [h'] at hi
  exact ⟨_, fun ty => run_append_nil (P := Tryz.prog) (w := W) 29 ty 9 i (.string ⟨#[]⟩) Tryz.underlying29 h' hi.1 ⟨b, 0, none⟩ 6 6 six (by rw [hi.2.1]; rfl) (fun j v hj => by
   have : (⟨b, 0, none⟩ : Addr).add j = ⟨b, j, none⟩ := by unfold Addr.add; split <;> simp_all
   rw [this, blk_cell h]
   simpa using hj) (by omega) (by omega) (by rw [hi.2.2]; omega)⟩
def NRΦ (w : World) (z : Array Value) (w2 : World) : Prop := w2.heap.size = w.heap.size + 1 ∧ Below w.heap.size w w2 ∧ w2.heap[w.heap.size]? = some (.cells (six.toArray ++ z) 9 (0, 0))
set_option maxRecDepth 1000000 in
set_option maxHeartbeats 4000000 in
theorem new_replacer (b : Nat) (w : World) (hb : w.heap[b]? = some (.cells six.toArray 9 (0, 0))) :
  Calls Tryz.prog 131 #[.slice (some ⟨b, 0, none⟩) 6 6] w fun e w' => ∃ c, e = .returned (.pointer (some ⟨w.heap.size + 1, 0, none⟩)) ∧ Below w.heap.size w w' ∧
   w'.heap[w.heap.size + 1]? = some (.cells #[.int .u32 0, .int .i32 0, .int .u32 0, Value.nilIface, .slice (some ⟨w.heap.size, 0, none⟩) 6 c] 188 (0, 0)) ∧
   ∃ z, w'.heap[w.heap.size]? = some (.cells (six.toArray ++ z) 9 (0, 0)) := by
 have hlt : b < w.heap.size := (Array.getElem?_eq_some_iff.1 hb).1
 obtain ⟨z, hz⟩ := app6 hb
 have HZ := Aside0.mk hz
 have hp : w.heap.size < (w.drew.alloc (.cells (six.toArray ++ z) 9)).heap.size := by rw [← alloc_size]; exact Nat.lt_succ_self _
 have HP := Aside0.mk (show NRΦ w z (w.drew.alloc (.cells (six.toArray ++ z) 9)) from
  ⟨(alloc_size _ _).symm, (Below.refl _ _).drew.alloc (Nat.le_refl _) _, heap_alloc_new w.drew _⟩)
 clear hb hz hp
 go_enter Tryz.func131, Tryz.ntmps131
 go_wp2_with (at_builtin; go_loud (refine wpList_append_run rfl (.const (.slice none 0 0)) (.tmp 8) 29 rfl _ _ rfl rfl _ _ HZ.out (NRΦ w z) HP.out ?_; intro w2 B2; apply StopAt.out))
 apply StopAt.mk
 obtain ⟨hs, hb, hh⟩ := B2
 have HS := Aside0.mk hs; have HB := Aside0.mk hb; have HH := Aside0.mk hh; clear hs hb hh
 go_wp2_with fail
 go_ret; have e1 := HS.out
 refine ⟨grownCap w 6 0 9, ?_, HB.out.alloc (by omega) _, ?_, z, (Below.heap_alloc _ _ _ (by omega)).trans HH.out⟩
 · rw [← e1]; rfl
 rw [← e1]; exact heap_alloc_new _ _
end Go.Proofs.YtkedidjjhhjdbaaGreatDoor.Pr
end
section
set_option linter.unusedVariables false
set_option linter.unusedSimpArgs false
namespace Go.Proofs.YtkedidjjhhjdbaaGreatDoor.Pr
open Go.RowKit Go.Proofs.YtkedidjjhhjdbaaGreatDoorW.PrintWords Go.Proofs.YtkedidjjhhjdbaaGreatDoorW.PrintLast Go.Proofs.YtkedidjjhhjdbaaGreatDoorW.PrintMore
def attr_Quote.f (s : ByteArray) : Option ByteArray := if s.size < 4294967281 then some ((⟨#[34]⟩ : ByteArray) ++ (⟨(escL s.data.toList).toArray⟩ : ByteArray) ++ (⟨#[34]⟩ : ByteArray)) else none
set_option maxRecDepth 1000000 in
set_option maxHeartbeats 4000000 in
theorem attr_Quote.calls (s r : ByteArray) (w : World) (h : attr_Quote.f s = some r) :
  Calls Tryz.prog 99 #[.string s] w fun e w' => e = .returned (.string r) ∧ Below w.heap.size w w' := by
 unfold attr_Quote.f at h
 split at h
 rotate_left
 · cases h
 rename_i hs
 cases h
 have hE : (⟨(escL s.data.toList).toArray⟩ : ByteArray).size ≤ 8589934562 := by
  show (escL s.data.toList).toArray.size ≤ _
  rw [List.size_toArray, escL_len]
  have h2 : specN s.data.toList ≤ s.data.toList.length := List.countP_le_length
  have h3 : s.data.toList.length = s.size := Array.length_toList
  omega
 have HE := Aside0.mk hE; clear hE
 have hw : (w.alloc (.cells six.toArray 9)).heap[w.heap.size]? = some (.cells six.toArray 9 (0, 0)) := heap_alloc_new _ _
 have hn := new_replacer _ _ hw; rw [← alloc_size] at hn; have H := Aside0.mk hn; have HA := Aside0.mk ((Below.refl w.heap.size w).alloc (Nat.le_refl _) (.cells six.toArray 9)); have HS := Aside0.mk hs; clear hw hs hn
 go_enter Tryz.func99, Tryz.ntmps99
 go_wp2_with (first | (go_at_call 131; refine H.out.mono ?_; rintro e w1 ⟨c, rfl, hb, hg, z, hz⟩; have HB := Aside0.mk hb; have HG := Aside0.mk hg; have HZ := Aside0.mk hz; clear hb hg hz))
 have q : ∀ i v, six[i]? = some v → w1.cell? ⟨w.heap.size + 1, i, none⟩ = some v := fun i v h => (blk_cell HZ.out i).trans (by
  rw [Array.getElem?_append_left (by simpa using (List.getElem?_eq_some_iff.1 h).1)]
  simpa using h)
 refine (replace_plain w (w.heap.size + 1 + 1) (w.heap.size + 1) c s w1 HG.out (q 0 _ rfl) (q 1 _ rfl) (q 2 _ rfl) (q 3 _ rfl) (q 4 _ rfl) (q 5 _ rfl) (by omega) (by omega) (HA.out.trans (HB.out.mono (by omega))) HS.out).mono ?_
 rintro e w2 ⟨rfl, hb2⟩
 have HB2 := Aside0.mk hb2; clear hb2 q
 have z1 : (⟨#[34]⟩ : ByteArray).size = 1 := rfl
 have hE2 := HE.out
 generalize hq : (⟨(escL s.data.toList).toArray⟩ : ByteArray) = q at *
 have HQ := Aside0.mk hq; clear hq
 have hsi : (q.size : Int) ≤ 8589934562 := by omega
 go_wp2_with fail
 go_ret
 exact ⟨by rw [HQ.out]; rfl, HB2.out⟩
end Go.Proofs.YtkedidjjhhjdbaaGreatDoor.Pr
end
