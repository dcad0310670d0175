import Derived.Test.YtefeibndnghejaaGreatDoorProg
import Derived.Test.YtefeibndnghejaaGreatDoorJn1
import Derived.Test.YtefeibndnghejaaGreatDoorJn2
import Derived.Below
import Derived.Shelf.Unicode.DecodeSlow
set_option linter.unusedVariables false
set_option linter.unusedSimpArgs false
namespace Go.Proofs.YtefeibndnghejaaGreatDoor.Pr
open Go.RowKit Go.Proofs.YtefeibndnghejaaGreatDoorW.PrintWords Go.Proofs.YtefeibndnghejaaGreatDoorW.PrintLast Go.Proofs.YtefeibndnghejaaGreatDoorW.PrintMore
def EnvW (w : World) : Prop := Lib.Utf8Tabs 1 2 w ∧ ∃ m : Int, w.cell? ⟨0, 0, none⟩ = some (.int .i64 m)
theorem env_below {w w' : World} (h : EnvW w) (hb : Below w.heap.size w w') : EnvW w' := by
 obtain ⟨h1, m, h2⟩ := h
 refine ⟨Utf8Tabs_below h1 hb, m, (hb.cell ?_).trans h2⟩
 rcases Nat.lt_or_ge 0 w.heap.size with h' | h'
 ·
  exact h'
 ·
  simp [World.cell?, Array.getElem?_eq_none h'] at h2
theorem env_of {w0 w : World} (h : Aside0 (EnvW w0)) (hb : Aside0 (Below w0.heap.size w0 w)) : EnvW w := env_below h.out hb.out
theorem env_out {w : World} (h : Aside0 (EnvW w)) : EnvW w := h.out
theorem env_alloc {w : World} {o : Obj} (h : EnvW w) : EnvW (w.alloc o) := env_below h ((Below.refl _ _).alloc (Nat.le_refl _) _)
theorem env_drewN {w : World} {n : Nat} (h : EnvW w) : EnvW (w.drewN n) := ⟨h.1, h.2⟩
theorem env_drew {w : World} (h : EnvW w) : EnvW w.drew := ⟨h.1, h.2⟩
theorem env_set {w0 w : World} {p : Addr} {v : Value} (h : EnvW w) (h0 : Aside0 (EnvW w0)) (hp : Aside0 (w0.heap.size ≤ p.block)) : EnvW (w.setCell p v) := by
 have h3 : 2 < w0.heap.size := by
  have := (h0.out.1.2 0 (by omega)).1
  rcases Nat.lt_or_ge 2 w0.heap.size with h' | h'
  ·
   exact h'
  ·
   simp [World.cell?, Array.getElem?_eq_none h'] at this
 have hb : 2 < p.block := Nat.lt_of_lt_of_le h3 hp.out
 obtain ⟨⟨a1, a2⟩, m, a3⟩ := h
 have hk : ∀ q : Addr, q.block ≤ 2 → (w.setCell p v).cell? q = w.cell? q := fun q hq => World.cell?_setCell_other w p q v (fun e => by subst e; omega)
 exact ⟨⟨fun c hc => (hk _ (by simp)).trans (a1 c hc), fun i hi => ⟨(hk _ (by simp)).trans (a2 i hi).1, (hk _ (by simp)).trans (a2 i hi).2⟩⟩, m, (hk _ (by simp)).trans a3⟩
theorem bytesLess_irrefl : ∀ a : List UInt8, Op.bytesLess a a = false
 | [] => rfl
 | a :: x => by simp [Op.bytesLess, bytesLess_irrefl x]
theorem bytesLess_total : ∀ a b : List UInt8, (!(Op.bytesLess a b || a == b)) = Op.bytesLess b a
 | [], [] => rfl
 | [], _ :: _ => rfl
 | _ :: _, [] => rfl
 | a :: x, b :: y => by
  have ih := bytesLess_total x y
  simp only [Op.bytesLess]
  by_cases h : a = b
  ·
   subst h
   have hlt : ¬ (a < a) := by simp
   simp only [hlt, decide_false, Bool.false_or, beq_self_eq_true, Bool.true_and]
   rw [← ih]
   simp
  ·
   have hba : (b == a) = false := beq_eq_false_iff_ne.2 (fun e => h e.symm)
   have hab : (a == b) = false := beq_eq_false_iff_ne.2 h
   have hne : (a :: x == b :: y) = false := by simp [h]
   simp only [hab, hba, hne, Bool.false_and, Bool.or_false]
   rcases Nat.lt_trichotomy a.toNat b.toNat with hl | he | hl
   ·
    have h1 : a < b := hl
    have h2 : ¬ b < a := by intro h3; have : b.toNat < a.toNat := h3; omega
    simp [h1, h2]
   ·
    exact absurd (UInt8.toNat_inj.1 he) h
   ·
    have h1 : b < a := hl
    have h2 : ¬ a < b := by intro h3; have : a.toNat < b.toNat := h3; omega
    simp [h1, h2]
theorem strGtr (t : TypeId) (a b : ByteArray) : binOp .gtr t (.string a) (.string b) = pure (.bool (Op.bytesLess b.toList a.toList)) := by
 rw [← bytesLess_total]; simp [binOp, Op.stringOp]
theorem strLeq (t : TypeId) (a b : ByteArray) : binOp .leq t (.string a) (.string b) = pure (.bool (!(Op.bytesLess b.toList a.toList))) := by
 rw [← bytesLess_total]; simp [binOp, Op.stringOp]
theorem strGeq (t : TypeId) (a b : ByteArray) : binOp .geq t (.string a) (.string b) = pure (.bool (!(Op.bytesLess a.toList b.toList))) := by
 simp [binOp, Op.stringOp]
end Go.Proofs.YtefeibndnghejaaGreatDoor.Pr
