import Derived.Test.YtjmljepndicdmaaDoorT1
import Derived.Test.YtjmljepndicdmaaDoorS7
import Derived.Test.YtjmljepndicdmaaDoorA2
set_option linter.unusedVariables false
set_option linter.unusedSimpArgs false
namespace Go.Proofs.YtjmljepndicdmaaDoor
open Go.RowKit

def Fmt0 (n : Int) (s : ByteArray) : Prop := ∀ W, Env W → Calls Tryd.prog 45 #[.int .u64 n, .int .i64 10] W fun e w' => e = .returned (.string s) ∧ Below W.heap.size W w'
theorem fmt0 (n : Int) (u : Nat) (hn : n = u) (hu : u < 18446744073709551616) : Fmt0 n (bs (Lib.decDigits u)) := fun W hW => fmtU n u hn hu W hW.2
def Size0 (v q : Int) : Prop := ∀ W, Calls Tryd.prog 37 #[.int .i64 v] W fun e w' => e = .returned (.int .u64 q) ∧ W = w'


theorem tuple1s {a b : ByteArray} (h : a = b) : Ending.returned (.string a) = .returned (.string b) := by rw [h]

set_option maxHeartbeats 400000 in
theorem text_whole (v q : Int) (w : World) (A : ByteArray) (hA : A.size ≤ 13) (he : Env w) (h0 : 0 ≤ q) (h1 : q ≤ 9223372036854775807) (HS : Hid (Size0 v q)) (HA : Hid (Fmt0 (q / 1000000) A)) (hr : q % 1000000 = 0) :
    Calls Tryd.prog 32 #[.int .i64 v] w fun e w' => e = .returned (.string (if v < 0 then bs [45] ++ A else A)) ∧ Below w.heap.size w w' := by
  by_cases hv : v < 0
  all_goals (first | rw [if_pos hv] | rw [if_neg hv]; replace hv : 0 ≤ v := by omega)
  all_goals
    go_enter Tryd.func32, Tryd.ntmps32
    go_wp2_with fail
    refine (HS.out _).mono ?_
    rintro e w' ⟨rfl, rfl⟩
    go_wp2_with fail
    refine (HA.out _ he).mono ?_
    rintro e w' ⟨rfl, hb⟩
    go_wp2_with fail
    go_ret
    exact ⟨rfl, hb⟩
def Rep0 (n : Int) (s : ByteArray) : Prop := ∀ W, Calls Tryd.prog 47 #[.string ⟨#[48]⟩, .int .i64 n] W fun e w' => e = .returned (.string s) ∧ Below W.heap.size W w'
def TrimR0 (s t : ByteArray) : Prop := ∀ W, Calls Tryd.prog 46 #[.string s, .string ⟨#[48]⟩] W fun e w' => e = .returned (.string t) ∧ w' = W

set_option maxHeartbeats 400000 in
theorem text_part (v q : Int) (w : World) (A D Z T : ByteArray) (hA : A.size ≤ 13) (hZ : Z.size ≤ 6) (hT : T.size ≤ 6) (he : Env w) (h0 : 0 ≤ q) (h1 : q ≤ 9223372036854775807) (HS : Hid (Size0 v q)) (HA : Hid (Fmt0 (q / 1000000) A)) (hr : 0 < q % 1000000)
    (HD : Hid (Fmt0 (q % 1000000) D)) (hD : D.size ≤ 6) (HZ : Hid (Rep0 (6 - D.size) Z)) (HT : Hid (TrimR0 (Z ++ D) T)) :
    Calls Tryd.prog 32 #[.int .i64 v] w fun e w' => e = .returned (.string (if v < 0 then bs [45] ++ (A ++ (bs [46] ++ T)) else A ++ (bs [46] ++ T))) ∧ Below w.heap.size w w' := by
  by_cases hv : v < 0
  all_goals (first | rw [if_pos hv] | rw [if_neg hv]; replace hv : 0 ≤ v := by omega)
  all_goals
    go_enter Tryd.func32, Tryd.ntmps32
    go_wp2_with fail
    refine (HS.out _).mono ?_
    rintro e w' ⟨rfl, rfl⟩
    go_wp2_with fail
    refine (HA.out _ he).mono ?_
    rintro e w1 ⟨rfl, hb⟩
    have he1 := he.below hb
    go_wp2_with fail
    refine (HD.out _ he1).mono ?_
    rintro e w2 ⟨rfl, hb2⟩
    go_wp2_with fail
    refine (HZ.out _).mono ?_
    rintro e w3 ⟨rfl, hb3⟩
    go_wp2_with fail
    refine (HT.out _).mono ?_
    rintro e w' ⟨rfl, rfl⟩
    have B := Lib.hid ((hb.trans (hb2.mono hb.size)).trans (hb3.mono (Nat.le_trans hb.size hb2.size)))
    clear hb hb2 hb3
    go_wp2_with fail
    go_ret
    exact ⟨tuple1s (by first | rfl | simp [ByteArray.append_assoc] | (simp only [ByteArray.append_assoc]; rfl)), B.out⟩
end Go.Proofs.YtjmljepndicdmaaDoor
