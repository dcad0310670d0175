import Derived.Test.YtjmljepndicdmaaDoorT2
set_option linter.unusedVariables false
set_option linter.unusedSimpArgs false
namespace Go.Proofs.YtjmljepndicdmaaDoor
open Go.RowKit

theorem bs_app (a b : List UInt8) : bs a ++ bs b = bs (a ++ b) := by
  apply ByteArray.ext
  simp [bs]

theorem trim_bs (l : List UInt8) (h : l.length ≤ 12) : TrimR0 (bs l) (bs (Lib.trimRightB l 48)) := fun W => by
  have := Tryd.strings_TrimRight_one (bs l) 48 (by decide) W (by rw [bs_size]; omega)
  rw [bs_list] at this
  exact this
theorem rep_bs (c : Nat) (n : Int) (hn : n = c) (h : c ≤ 6) : Rep0 n (bs (Lib.repeatL [48] c)) := fun W => by
  subst hn
  refine Tryd.strings_Repeat ⟨#[48]⟩ c W (by omega) ?_
  have : (⟨#[48]⟩ : ByteArray).size = 1 := rfl
  rw [this, Nat.one_mul]
  omega

theorem text_any (v : Int) (w : World) (h0 : -9223372036854775808 ≤ v) (h1 : v ≤ 9223372036854775807) (he : Env w) :
    Calls Tryd.prog 32 #[.int .i64 v] w fun e w' => e = .returned (.string (bs (textF v))) ∧ Below w.heap.size w w' := by
  have hb := absF_bd v h1
  have HS : Size0 v (absF v) := fun W => size_any v W h0 h1
  obtain ⟨n, hn⟩ : ∃ n : Nat, absF v = n := ⟨(absF v).toNat, by omega⟩
  have htn : (absF v).toNat = n := by omega
  have hn1 : n ≤ 9223372036854775807 := by omega
  unfold textF
  rw [htn]
  have hA : (bs (Lib.decDigits (n / 1000000))).size ≤ 13 := by
    rw [bs_size, Lib.decDigits_length]
    exact nDigits_le _ 13 (by decide) (by rw [show (10 : Nat) ^ 13 = 10000000000000 from rfl]; omega)
  have FA : Fmt0 (absF v / 1000000) (bs (Lib.decDigits (n / 1000000))) := fmt0 _ _ (by rw [hn]; omega) (by omega)
  by_cases hr : n % 1000000 = 0
  · have := text_whole v (absF v) w _ hA he hb.1 hb.2 (Lib.hid HS) (Lib.hid FA) (by omega)
    rw [fracF, if_pos hr, List.append_nil]
    by_cases hv : v < 0
    · simp only [if_pos hv] at this ⊢
      rw [bs_app] at this
      exact this
    · simp only [if_neg hv] at this ⊢
      rw [List.nil_append]
      exact this
  · have hr6 : n % 1000000 < 1000000 := Nat.mod_lt _ (by decide)
    have FD : Fmt0 (absF v % 1000000) (bs (Lib.decDigits (n % 1000000))) := fmt0 _ _ (by rw [hn]; omega) (by omega)
    have hD : (bs (Lib.decDigits (n % 1000000))).size ≤ 6 := by
      rw [bs_size, Lib.decDigits_length]
      exact nDigits_le _ 6 (by decide) (by rw [show (10 : Nat) ^ 6 = 1000000 from rfl]; omega)
    have hz : (bs (Lib.repeatL [48] (6 - Lib.nDigits (n % 1000000)))).size ≤ 6 := by
      rw [bs_size, Lib.repeatL_length]; simp
    have hsix : (six (n % 1000000)).length = 6 := by simp [six]
    have FZ : Rep0 (6 - (bs (Lib.decDigits (n % 1000000))).size) (bs (Lib.repeatL [48] (6 - Lib.nDigits (n % 1000000)))) := rep_bs _ _ (by
      rw [bs_size, Lib.decDigits_length] at hD ⊢; omega) (Nat.sub_le _ _)
    have FT : TrimR0 (bs (Lib.repeatL [48] (6 - Lib.nDigits (n % 1000000))) ++ bs (Lib.decDigits (n % 1000000))) (bs (Lib.trimRightB (six (n % 1000000)) 48)) := by
      rw [bs_app, pad_six _ hr6]
      exact trim_bs _ (by rw [hsix]; omega)
    have hT : (bs (Lib.trimRightB (six (n % 1000000)) 48)).size ≤ 6 := by
      rw [bs_size]
      have := trim_le (six (n % 1000000)) 48
      omega
    have := text_part v (absF v) w _ _ _ _ hA hz hT he hb.1 hb.2 (Lib.hid HS) (Lib.hid FA) (by omega) (Lib.hid FD) hD (Lib.hid FZ) (Lib.hid FT)
    rw [fracF, if_neg hr]
    by_cases hv : v < 0
    · simp only [if_pos hv] at this ⊢
      rw [bs_app, bs_app, bs_app] at this
      exact this
    · simp only [if_neg hv] at this ⊢
      rw [bs_app, bs_app] at this
      rw [List.nil_append]
      exact this

/-! ### ref.Text -/
def FmtI0 (n : Int) (s : ByteArray) : Prop := ∀ W, Env W → Calls Tryd.prog 54 #[.int .i64 n, .int .i64 10] W fun e w' => e = .returned (.string s) ∧ Below W.heap.size W w'
theorem fmtI (n : Int) (u : Nat) (hn : n = u) (hu : u ≤ 9223372036854775807) : FmtI0 n (bs (Lib.decDigits u)) := fun W hW => by
  subst hn
  refine (Tryd.strconv_FormatInt_10 u (by omega) (by omega) W hW.2).mono ?_
  rintro e w' ⟨rfl, k, os, rfl⟩
  rw [Lib.itoa_nonneg]
  exact ⟨rfl, Lib.below_grow _ _ (Nat.le_refl _) _ _⟩

def Norm0 (v u : Int) : Prop := ∀ W, Calls Tryd.prog 20 #[.int .i64 v] W fun e w' => e = .returned (.int .i64 u) ∧ W = w'
set_option maxHeartbeats 400000 in
theorem rtext_whole (v u q : Int) (w : World) (A : ByteArray) (hA : A.size ≤ 13) (he : Env w) (hu0 : -9223372036854775807 ≤ u) (hu1 : u ≤ 9223372036854775807) (hq : q = if u < 0 then - u else u) (HS : Hid (Norm0 v u)) (HA : Hid (FmtI0 (q / 1000000) A)) (hr : q % 1000000 = 0) :
    Calls Tryd.prog 35 #[.int .i64 v] w fun e w' => e = .returned (.string (if u < 0 then bs [45] ++ A else A)) ∧ Below w.heap.size w w' := by
  have hq0 : 0 ≤ q := by split at hq <;> omega
  have hq1 : q ≤ 9223372036854775807 := by split at hq <;> omega
  have hm : (q.tmod 1000000) = 0 := by rw [Int.tmod_eq_emod_of_nonneg hq0]; exact hr
  have hd : (q.tdiv 1000000) = q / 1000000 := Int.tdiv_eq_ediv_of_nonneg hq0
  have hdb : 0 ≤ q / 1000000 ∧ q / 1000000 ≤ 9223372036854775807 := by omega
  by_cases hu : u < 0
  · simp only [if_pos hu] at hq ⊢
    obtain rfl : u = -q := by omega
    clear hq
    have hu : 0 < q := by omega
    generalize q / 1000000 = qd at *
    go_enter Tryd.func35, Tryd.ntmps35
    go_wp2_with fail
    refine (HS.out _).mono ?_
    rintro e w' ⟨rfl, rfl⟩
    go_wp2_with fail
    refine (HA.out _ he).mono ?_
    rintro e w' ⟨rfl, hb⟩
    go_wp2_with fail
    go_ret
    exact ⟨tuple1s (by first | rfl | simp [ByteArray.append_assoc] | (simp only [ByteArray.append_assoc]; rfl)), hb⟩
  · simp only [if_neg hu] at hq ⊢
    subst hq
    generalize q / 1000000 = qd at *
    go_enter Tryd.func35, Tryd.ntmps35
    go_wp2_with fail
    refine (HS.out _).mono ?_
    rintro e w' ⟨rfl, rfl⟩
    go_wp2_with fail
    refine (HA.out _ he).mono ?_
    rintro e w' ⟨rfl, hb⟩
    go_wp2_with fail
    go_ret
    exact ⟨tuple1s (by first | rfl | simp [ByteArray.append_assoc] | (simp only [ByteArray.append_assoc]; rfl)), hb⟩
end Go.Proofs.YtjmljepndicdmaaDoor
