import Derived.Test.YtjmljepndicdmaaDoorT5
set_option linter.unusedVariables false
set_option linter.unusedSimpArgs false
namespace Go.Proofs.YtjmljepndicdmaaDoor
open Go.RowKit

def Dig0 (s : ByteArray) (o n : Int) : Prop := ∀ W, Calls Tryd.prog 52 #[.string s, .int .i64 o] W fun e w' => e = .returned (.int .i64 n) ∧ w' = W
def PI0 (s : ByteArray) (v : Int) : Prop := ∀ W, Calls Tryd.prog 53 #[.string s, .int .i64 10, .int .i64 64] W fun e w' => e = .returned (.tuple #[.int .i64 v, .nilIface]) ∧ Below W.heap.size W w'
def Head (s : ByteArray) (o : Nat) : Prop := (o = 1 ∧ ∃ h : 0 < s.size, (s[0].toNat : Int) = 45) ∨ (o = 0 ∧ ∃ h : 0 < s.size, (((s[0].toNat : Int) == 45) = false))
def RPost (X : Int × Int) (w : World) (e : Ending) (w' : World) : Prop := e = .returned (.tuple #[.int .i64 X.1, .int .i64 X.2]) ∧ Below w.heap.size w w'
theorem rpost {X : Int × Int} {a b : Int} {w w' : World} (h : X = (a, b)) (hb : Below w.heap.size w w') : RPost X w (.returned (.tuple #[.int .i64 a, .int .i64 b])) w' := by subst h; exact ⟨rfl, hb⟩


set_option maxHeartbeats 400000 in
theorem rp_a0 (s : ByteArray) (w : World) (X : Int × Int) (hs : s.size = 0) (HD : Hid (Dig0 s 0 0)) (hX : Hid (X = (0, 3))) :
    Calls Tryd.prog 34 #[.string s] w (RPost X w) := by
  go_enter Tryd.func34, Tryd.ntmps34
  go_wp2_with fail
  refine (HD.out _).mono ?_
  rintro e w' ⟨rfl, rfl⟩
  go_wp2_with fail
  go_ret2
  exact rpost hX.out (Below.refl _ _)

set_option maxHeartbeats 400000 in
theorem rp_a1 (s : ByteArray) (w : World) (X : Int × Int) (o : Nat) (n : Int) (hs : s.size ≤ maxLen) (hh : Head s o) (HD : Hid (Dig0 s o n)) (hn : n < 1 ∨ 13 < n) (hX : Hid (X = (0, 3))) :
    Calls Tryd.prog 34 #[.string s] w (RPost X w) := by
  unfold maxLen at hs
  rcases hh with ⟨rfl, h0, h1⟩ | ⟨rfl, h0, h1⟩ <;> rcases hn with hn | hn
  all_goals
    go_enter Tryd.func34, Tryd.ntmps34
    go_wp2_with fail
    refine (HD.out _).mono ?_
    rintro e w' ⟨rfl, rfl⟩
    go_wp2_with fail
    go_ret2
    exact rpost hX.out (Below.refl _ _)

set_option maxHeartbeats 400000 in
theorem rp_a3 (s : ByteArray) (w : World) (X : Int × Int) (o : Nat) (n : Int) (hs : s.size ≤ maxLen) (hh : Head s o) (HD : Hid (Dig0 s o n)) (hn1 : 1 < n) (hn2 : n ≤ 13) (h48 : ∃ h : o < s.size, (s[o].toNat : Int) = 48) (hX : Hid (X = (0, 3))) :
    Calls Tryd.prog 34 #[.string s] w (RPost X w) := by
  unfold maxLen at hs
  obtain ⟨h2, h3⟩ := h48
  rcases hh with ⟨rfl, h0, h1⟩ | ⟨rfl, h0, h1⟩
  all_goals
    go_enter Tryd.func34, Tryd.ntmps34
    go_wp2_with fail
    refine (HD.out _).mono ?_
    rintro e w' ⟨rfl, rfl⟩
    go_wp2_with fail
    go_ret2
    exact rpost hX.out (Below.refl _ _)

/-- What the whole part's digits are where they are right. -/
def WholeOk (s : ByteArray) (o n : Nat) : Prop := n ≤ 1 ∨ (1 < n ∧ ∃ h : o < s.size, (((s[o].toNat : Int) == 48) = false))
def FinX (o : Nat) (W P : Int) (X : Int × Int) : Prop :=
  ((9223372036854 < W ∨ (W = 9223372036854 ∧ 775807 < P)) ∧ Hid (X = (0, 1))) ∨
  ((W < 9223372036854 ∨ (W = 9223372036854 ∧ P ≤ 775807)) ∧ Hid (X = (if o = 1 then -(W * 1000000 + P) else W * 1000000 + P, 0)))

set_option maxHeartbeats 800000 in
theorem rp_b (s : ByteArray) (w : World) (X : Int × Int) (o n : Nat) (W : Int) (hs : s.size ≤ maxLen) (hh : Head s o) (HD : Hid (Dig0 s o n)) (hn1 : 1 ≤ n) (hn2 : n ≤ 13) (hon : s.size ≤ o + n) (hon2 : o + n ≤ s.size) (hw : WholeOk s o n)
    (HN : Hid (PI0 (s.extract o (o + n)) W)) (hW0 : 0 ≤ W) (hW1 : W < 10000000000000) (hf : FinX o W 0 X) :
    Calls Tryd.prog 34 #[.string s] w (RPost X w) := by
  unfold maxLen at hs
  rcases hh with ⟨rfl, h0, h1⟩ | ⟨rfl, h0, h1⟩ <;> rcases hw with hw | ⟨hw, h2, h3⟩
  all_goals
    try rw [Nat.zero_add] at HN
    try rw [Nat.zero_add] at hon
    try rw [Nat.zero_add] at hon2
    go_enter Tryd.func34, Tryd.ntmps34
    go_wp2_with fail
    refine (HD.out _).mono ?_
    rintro e w' ⟨rfl, rfl⟩
    go_wp2_with fail
    refine (HN.out _).mono ?_
    rintro e w1 ⟨rfl, hb⟩
    rcases hf with ⟨hf | ⟨rfl, hf⟩, hX⟩ | ⟨hf | ⟨rfl, hf⟩, hX⟩
    all_goals go_wp2_with fail
    all_goals go_ret2
    all_goals first
        | exact rpost hX.out hb
        | exact rpost (hX.out.trans (by simp)) hb
end Go.Proofs.YtjmljepndicdmaaDoor
