import Derived.Test.YtjmljepndicdmaaDoorK
import Derived.Test.YtjmljepndicdmaaDoorT9
set_option linter.unusedVariables false
set_option linter.unusedSimpArgs false
namespace Go.Proofs.YtjmljepndicdmaaDoor
open Go.RowKit

theorem text_len (v : Int) (h1 : v ≤ 9223372036854775807) : (textF v).length ≤ 30 := by
  have hb := absF_bd v h1
  have h2 : (Lib.decDigits ((absF v).toNat / 1000000)).length ≤ 13 := by
    rw [Lib.decDigits_length]
    exact nDigits_le _ 13 (by decide) (by rw [show (10 : Nat) ^ 13 = 10000000000000 from rfl]; omega)
  have h3 : (fracF ((absF v).toNat % 1000000)).length ≤ 7 := by
    unfold fracF
    split
    · simp
    · have := trim_le (six ((absF v).toNat % 1000000)) 48
      have e : (six ((absF v).toNat % 1000000)).length = 6 := by simp [six]
      simp only [List.length_cons]; omega
  unfold textF
  rw [List.length_append, List.length_append]
  split <;> simp <;> omega

def P33 (s : ByteArray) (y f : Int) : Prop := ∀ W, Env W → Calls Tryd.prog 33 #[.string s] W fun e w' => e = .returned (.tuple #[.int .i64 y, .int .i64 f]) ∧ Below W.heap.size W w'
def P34 (s : ByteArray) (y f : Int) : Prop := ∀ W, Calls Tryd.prog 34 #[.string s] W fun e w' => e = .returned (.tuple #[.int .i64 y, .int .i64 f]) ∧ Below W.heap.size W w'
def X32 (v : Int) (t : ByteArray) : Prop := ∀ W, Env W → Calls Tryd.prog 32 #[.int .i64 v] W fun e w' => e = .returned (.string t) ∧ Below W.heap.size W w'
def X35 (v : Int) (t : ByteArray) : Prop := ∀ W, Env W → Calls Tryd.prog 35 #[.int .i64 v] W fun e w' => e = .returned (.string t) ∧ Below W.heap.size W w'

set_option maxHeartbeats 1600000 in
theorem texts_go (v x y f : Int) (s t : ByteArray) (w : World) (he : Env w) (H1 : Hid (X32 v t)) (H2 : Hid (P33 t x 0)) (H3 : Hid (P33 s y f)) (H4 : Hid (P34 s y f)) (H5 : Hid (X35 v t)) (H6 : Hid (Norm0 v x)) :
    Calls Tryd.prog 8 #[.int .i64 v, .string s] w fun e w' => e = .returned (.bool true) ∧ Below w.heap.size w w' := by
  go_enter Tryd.func8, Tryd.ntmps8
  go_wp2_with fail
  refine (H1.out _ he).mono ?_; rintro e w1 ⟨rfl, b1⟩
  have e1 := he.below b1
  go_wp2_with fail
  refine (H2.out _ e1).mono ?_; rintro e w2 ⟨rfl, b2⟩
  have e2 := e1.below b2
  replace b2 := b1.trans (b2.mono b1.size)
  go_wp2_with fail
  refine (H3.out _ e2).mono ?_; rintro e w3 ⟨rfl, b3⟩
  have e3 := e2.below b3
  replace b3 := b2.trans (b3.mono b2.size)
  go_wp2_with fail
  refine (H4.out _).mono ?_; rintro e w4 ⟨rfl, b4⟩
  have e4 := e3.below b4
  replace b4 := b3.trans (b4.mono b3.size)
  go_wp2_with fail
  refine (H5.out _ e4).mono ?_; rintro e w5 ⟨rfl, b5⟩
  have e5 := e4.below b5
  replace b5 := b4.trans (b5.mono b4.size)
  go_wp2_with fail
  refine (H6.out _).mono ?_; rintro e w6 ⟨rfl, rfl⟩
  go_wp2_with fail
  refine (known_any _ e5).mono ?_; rintro e w7 ⟨rfl, b7⟩
  replace b7 := b5.trans (b7.mono b5.size)
  go_wp2_with fail
  go_ret
  exact ⟨rfl, b7⟩

theorem texts_any (v : Int) (s : ByteArray) (w : World) (he : Env w) (h0 : -9223372036854775808 ≤ v) (h1 : v ≤ 9223372036854775807) (hs : s.size ≤ maxLen) :
    Calls Tryd.prog 8 #[.int .i64 v, .string s] w fun e w' => e = .returned (.bool true) ∧ Below w.heap.size w w' := by
  have hl := text_len v h1
  have H2 : P33 (bs (textF v)) (nrm v) 0 := fun W hW => by
    have := parse_any (bs (textF v)) W (by rw [bs_size]; unfold maxLen; omega) hW
    rw [bs_list, parse_text v h1] at this
    exact this
  have H3 : P33 s (parseF s.data.toList).1 (parseF s.data.toList).2 := fun W hW => parse_any s W hs hW
  have H4 : P34 s (parseF s.data.toList).1 (parseF s.data.toList).2 := fun W => rparse_any s W hs
  exact texts_go v (nrm v) _ _ s (bs (textF v)) w he (Lib.hid fun W hW => text_any v W h0 h1 hW) (Lib.hid H2) (Lib.hid H3) (Lib.hid H4) (Lib.hid fun W hW => rtext_any v W h0 h1 hW) (Lib.hid fun W => norm_any v W h0 h1)
end Go.Proofs.YtjmljepndicdmaaDoor
