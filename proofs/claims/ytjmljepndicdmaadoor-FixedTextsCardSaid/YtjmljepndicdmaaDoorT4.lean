import Derived.Test.YtjmljepndicdmaaDoorT3
set_option linter.unusedVariables false
set_option linter.unusedSimpArgs false
namespace Go.Proofs.YtjmljepndicdmaaDoor
open Go.RowKit

theorem bs_last (m : List UInt8) (c : UInt8) (h : m.length < (bs (m ++ [c])).size) : (bs (m ++ [c]))[m.length] = c := by
  have h2 := list_byte (bs (m ++ [c])) m.length (by rw [bs_list]; simp) h
  rw [← h2]
  simp [bs_list]
theorem bs_init (m : List UInt8) (c : UInt8) : (bs (m ++ [c])).extract 0 m.length = bs m := by
  rw [extract_take, bs_list]
  simp [bs]

theorem trim_snoc_same (m : List UInt8) (c : UInt8) : Lib.trimRightB (m ++ [c]) c = Lib.trimRightB m c := by
  simp [Lib.trimRightB]
theorem trim_snoc_stop (m : List UInt8) (c d : UInt8) (h : d ≠ c) : Lib.trimRightB (m ++ [d]) c = m ++ [d] := by
  simp [Lib.trimRightB, h]

def strLen : Value → Nat
  | .string d => d.size
  | _ => 0

set_option maxHeartbeats 800000 in
theorem rtext_part (v u q : Int) (w : World) (A : ByteArray) (l t : List UInt8) (hl : l.length = 6) (ht : Lib.trimRightB l 48 = t) (ht0 : t ≠ []) (hA : A.size ≤ 13) (he : Env w) (hu0 : -9223372036854775807 ≤ u) (hu1 : u ≤ 9223372036854775807) (hq : q = if u < 0 then - u else u) (HS : Hid (Norm0 v u)) (HA : Hid (FmtI0 (q / 1000000) A))
    (r : Int) (hr : q % 1000000 = r) (hr0 : 0 < r) (HD : Hid (FmtI0 (r + 1000000) (bs (49 :: l)))) :
    Calls Tryd.prog 35 #[.int .i64 v] w fun e w' => e = .returned (.string (if u < 0 then bs [45] ++ (A ++ (bs [46] ++ bs t)) else A ++ (bs [46] ++ bs t))) ∧ Below w.heap.size w w' := by
  have hr1 : r < 1000000 := by omega
  have hq0 : 0 ≤ q := by split at hq <;> omega
  have hq1 : q ≤ 9223372036854775807 := by split at hq <;> omega
  have hm : (q.tmod 1000000) = r := by rw [Int.tmod_eq_emod_of_nonneg hq0]; exact hr
  have hd : (q.tdiv 1000000) = q / 1000000 := Int.tdiv_eq_ediv_of_nonneg hq0
  have hdb : 0 ≤ q / 1000000 ∧ q / 1000000 ≤ 9223372036854775807 := by omega
  have hdr : (bs (49 :: l)).extract 1 (bs (49 :: l)).size = bs l := bs_drop 49 l
  have hsz : (bs (49 :: l)).size = 7 := by rw [bs_size]; simp [hl]
  rw [hsz] at hdr
  generalize bs (49 :: l) = L at *
  by_cases hu : u < 0
  · simp only [if_pos hu] at hq ⊢
    obtain rfl : u = -q := by omega
    clear hq
    have hu : 0 < q := by omega
    clear hr
    generalize q / 1000000 = qd at *
    go_enter Tryd.func35, Tryd.ntmps35
    go_wp2_with fail
    refine (HS.out _).mono ?_
    rintro e w' ⟨rfl, rfl⟩
    go_wp2_with fail
    refine (HA.out _ he).mono ?_
    rintro e w1 ⟨rfl, hb⟩
    have he1 := he.below hb
    go_wp2_with fail
    refine (HD.out _ he1).mono ?_
    rintro e w2 ⟨rfl, hb2⟩
    have B := Lib.hid (hb.trans (hb2.mono hb.size))
    go_wp2
    clear hb hb2 he he1 HD HA HS hdr hsz
    go_loop [5] (fun i => ∃ m : List UInt8, i = .string (bs m) ∧ m ≠ [] ∧ m.length ≤ 6 ∧ Lib.trimRightB m 48 = t) (fun i => strLen i)
    case atStart => exact ⟨l, rfl, by intro e; rw [e] at hl; simp at hl, by omega, ht⟩
    case round =>
      obtain ⟨m, rfl, hm0, hm6, hmt⟩ := hrel
      obtain ⟨m', c, rfl⟩ : ∃ m' c, m = m' ++ [c] := ⟨m.dropLast, m.getLast hm0, (List.dropLast_concat_getLast hm0).symm⟩
      have hz : (bs (m' ++ [c])).size = m'.length + 1 := by rw [bs_size]; simp
      have hb : ∀ h : m'.length < (bs (m' ++ [c])).size, (bs (m' ++ [c]))[m'.length] = c := bs_last m' c
      have hx := bs_init m' c
      have hk : m'.length ≤ 5 := by simp at hm6; omega
      by_cases hc : c = 48
      · subst hc
        rw [trim_snoc_same] at hmt
        have hm1 : m' ≠ [] := by intro e; subst e; exact ht0 hmt.symm
        have hk0 : 0 < m'.length := List.length_pos_iff.2 hm1
        clear hm0 hm6
        have HM := Lib.hid hmt
        clear hmt
        generalize bs (m' ++ [48]) = d at *
        have hsz' := bs_size m'
        generalize hkk : m'.length = k at *
        generalize hbb : bs m' = d' at *
        go_wp2
        go_round
        case rel => exact ⟨m', by rw [hbb], hm1, by omega, HM.out⟩
        case measure => simp only [strLen]; omega
      · rw [trim_snoc_stop _ _ _ hc] at hmt
        have hcn : ((c.toNat : Int) == 48) = false := by
          simp only [beq_eq_false_iff_ne]
          intro e
          exact hc (UInt8.toNat_inj.1 (by show c.toNat = 48; omega))
        clear hm0 hm6
        have hk1 : (bs t).size = m'.length + 1 := by rw [← hmt]; exact hz
        have HM : Hid (bs (m' ++ [c]) = bs t) := Lib.hid (by rw [hmt])
        clear hmt
        generalize bs (m' ++ [c]) = d at *
        generalize m'.length = k at *
        go_wp2
        go_ret
        exact ⟨tuple1s (by rw [← HM.out]; first | rfl | (simp only [ByteArray.append_assoc]; rfl)), B.out⟩
  · simp only [if_neg hu] at hq ⊢
    subst hq
    clear hr
    generalize q / 1000000 = qd at *
    go_enter Tryd.func35, Tryd.ntmps35
    go_wp2_with fail
    refine (HS.out _).mono ?_
    rintro e w' ⟨rfl, rfl⟩
    go_wp2_with fail
    refine (HA.out _ he).mono ?_
    rintro e w1 ⟨rfl, hb⟩
    have he1 := he.below hb
    go_wp2_with fail
    refine (HD.out _ he1).mono ?_
    rintro e w2 ⟨rfl, hb2⟩
    have B := Lib.hid (hb.trans (hb2.mono hb.size))
    go_wp2
    clear hb hb2 he he1 HD HA HS hdr hsz
    go_loop [5] (fun i => ∃ m : List UInt8, i = .string (bs m) ∧ m ≠ [] ∧ m.length ≤ 6 ∧ Lib.trimRightB m 48 = t) (fun i => strLen i)
    case atStart => exact ⟨l, rfl, by intro e; rw [e] at hl; simp at hl, by omega, ht⟩
    case round =>
      obtain ⟨m, rfl, hm0, hm6, hmt⟩ := hrel
      obtain ⟨m', c, rfl⟩ : ∃ m' c, m = m' ++ [c] := ⟨m.dropLast, m.getLast hm0, (List.dropLast_concat_getLast hm0).symm⟩
      have hz : (bs (m' ++ [c])).size = m'.length + 1 := by rw [bs_size]; simp
      have hb : ∀ h : m'.length < (bs (m' ++ [c])).size, (bs (m' ++ [c]))[m'.length] = c := bs_last m' c
      have hx := bs_init m' c
      have hk : m'.length ≤ 5 := by simp at hm6; omega
      by_cases hc : c = 48
      · subst hc
        rw [trim_snoc_same] at hmt
        have hm1 : m' ≠ [] := by intro e; subst e; exact ht0 hmt.symm
        have hk0 : 0 < m'.length := List.length_pos_iff.2 hm1
        clear hm0 hm6
        have HM := Lib.hid hmt
        clear hmt
        generalize bs (m' ++ [48]) = d at *
        have hsz' := bs_size m'
        generalize hkk : m'.length = k at *
        generalize hbb : bs m' = d' at *
        go_wp2
        go_round
        case rel => exact ⟨m', by rw [hbb], hm1, by omega, HM.out⟩
        case measure => simp only [strLen]; omega
      · rw [trim_snoc_stop _ _ _ hc] at hmt
        have hcn : ((c.toNat : Int) == 48) = false := by
          simp only [beq_eq_false_iff_ne]
          intro e
          exact hc (UInt8.toNat_inj.1 (by show c.toNat = 48; omega))
        clear hm0 hm6
        have hk1 : (bs t).size = m'.length + 1 := by rw [← hmt]; exact hz
        have HM : Hid (bs (m' ++ [c]) = bs t) := Lib.hid (by rw [hmt])
        clear hmt
        generalize bs (m' ++ [c]) = d at *
        generalize m'.length = k at *
        go_wp2
        go_ret
        exact ⟨tuple1s (by rw [← HM.out]; first | rfl | (simp only [ByteArray.append_assoc]; rfl)), B.out⟩
end Go.Proofs.YtjmljepndicdmaaDoor
