import Derived.Test.YtjmljepndicdmaaDoorK
import Derived.Test.YtjmljepndicdmaaDoorS5
import Derived.Test.YtjmljepndicdmaaDoorW1
set_option linter.unusedVariables false
set_option linter.unusedSimpArgs false
namespace Go.Proofs.YtjmljepndicdmaaDoor
open Go.RowKit

def i64s (zs : List Int) : List Value := zs.map fun z => .int .i64 z
def InRange (zs : List Int) : Prop := ∀ z ∈ zs, -9223372036854775808 ≤ z ∧ z ≤ 9223372036854775807

theorem rd_int {w : World} {B : Nat} {A : Option Addr} {n k : Nat} {zs : List Int} (h : Rd w B A n (i64s zs)) (hk : k < n) :
    ∃ ad z, A = some ad ∧ zs[k]? = some z ∧ w.cell? (ad.add k) = some (.int .i64 z) := by
  obtain ⟨ad, u, rfl, _, hu, hc⟩ := h.at_ hk
  rw [i64s, List.getElem?_map] at hu
  cases hz : zs[k]? with
  | none => rw [hz] at hu; cases hu
  | some z => rw [hz] at hu; simp at hu; subst hu; exact ⟨ad, z, rfl, rfl, hc⟩

theorem foldF_take (zs : List Int) (k : Nat) (z : Int) (h : zs[k]? = some z) : foldF (zs.take (k + 1)) = addF (foldF (zs.take k)) z := by
  rw [List.take_add_one, h]
  exact foldF_snoc _ _
theorem range_at {zs : List Int} (h : InRange zs) {k : Nat} {z : Int} (hz : zs[k]? = some z) : -9223372036854775808 ≤ z ∧ z ≤ 9223372036854775807 := h z (List.mem_of_getElem? hz)

set_option maxHeartbeats 400000 in
theorem sum_any (B : Nat) (A : Option Addr) (n c : Nat) (zs : List Int) (w : World) (hr : Rd w B A n (i64s zs)) (hz : InRange zs) (hn : n ≤ 9223372036854775807) :
    Calls Tryd.prog 22 #[.slice A n c] w fun e w' => e = .returned (.int .i64 (foldF zs)) ∧ w = w' := by
  have hl : zs.length = n := by have := hr.1; simpa [i64s] using this
  have HR := Lib.hid hr
  have HZ := Lib.hid hz
  clear hr hz
  go_enter Tryd.func22, Tryd.ntmps22
  go_wp2
  go_loop [3, 8] (fun t i => ∃ k : Nat, k ≤ n ∧ i = .int .i64 k ∧ ∃ x : Int, t = .int .i64 x ∧ Hid (x = foldF (zs.take k))) (fun _ i => n - (intOf i).toNat)
  case atStart => exact ⟨0, Nat.zero_le _, rfl, 0, rfl, Lib.hid rfl⟩
  case round =>
    obtain ⟨k, hk, rfl, x, rfl, hx⟩ := hrel
    have xb : -9223372036854775807 ≤ x ∧ x ≤ 9223372036854775807 := by rw [hx.out]; exact foldF_bd _
    by_cases hlt : k < n
    · obtain ⟨ad, z, rfl, hzk, hc⟩ := rd_int HR.out hlt
      have zb := range_at HZ.out hzk
      have HK := Lib.hid hzk
      clear hzk
      go_wp2_with fail
      refine (add_any x z _ (by omega) (by omega) (by omega) (by omega)).mono ?_; rintro e w2 ⟨rfl, rfl⟩
      go_wp2_with fail
      go_round
      case rel => exact ⟨k + 1, by omega, by go_num, _, rfl, Lib.hid (by rw [foldF_take zs k z HK.out, ← hx.out])⟩
      case measure => simp [intOf]; omega
    · have : k = n := by omega
      have hx' : x = foldF zs := by rw [hx.out, List.take_of_length_le (by omega)]
      have HX := Lib.hid hx'
      clear hx' this
      go_wp2_with fail
      go_ret
      exact ⟨ret_i64 HX.out, rfl⟩

set_option maxHeartbeats 400000 in
theorem refSum_any (B : Nat) (A : Option Addr) (n c : Nat) (zs : List Int) (w : World) (hr : Rd w B A n (i64s zs)) (hz : InRange zs) (hn : n ≤ 9223372036854775807) :
    Calls Tryd.prog 23 #[.slice A n c] w fun e w' => e = .returned (.int .i64 (foldF zs)) ∧ w = w' := by
  have hl : zs.length = n := by have := hr.1; simpa [i64s] using this
  have HR := Lib.hid hr
  have HZ := Lib.hid hz
  clear hr hz
  go_enter Tryd.func23, Tryd.ntmps23
  go_wp2
  go_loop [3, 4] (fun t i => ∃ k : Nat, k ≤ n ∧ i = .int .i64 k ∧ ∃ x : Int, t = .int .i64 x ∧ Hid (x = foldF (zs.take k))) (fun _ i => n - (intOf i).toNat)
  case atStart => exact ⟨0, Nat.zero_le _, rfl, 0, rfl, Lib.hid rfl⟩
  case round =>
    obtain ⟨k, hk, rfl, x, rfl, hx⟩ := hrel
    have xb : -9223372036854775807 ≤ x ∧ x ≤ 9223372036854775807 := by rw [hx.out]; exact foldF_bd _
    by_cases hlt : k < n
    · obtain ⟨ad, z, rfl, hzk, hc⟩ := rd_int HR.out hlt
      have zb := range_at HZ.out hzk
      have HK := Lib.hid hzk
      clear hzk
      go_wp2_with fail
      refine (refAdd_any x z _ (by omega) (by omega) (by omega) (by omega)).mono ?_; rintro e w2 ⟨rfl, rfl⟩
      go_wp2_with fail
      go_round
      case rel => exact ⟨k + 1, by omega, by go_num, _, rfl, Lib.hid (by rw [foldF_take zs k z HK.out, ← hx.out])⟩
      case measure => simp [intOf]; omega
    · have : k = n := by omega
      have hx' : x = foldF zs := by rw [hx.out, List.take_of_length_le (by omega)]
      have HX := Lib.hid hx'
      clear hx' this
      go_wp2_with fail
      go_ret
      exact ⟨ret_i64 HX.out, rfl⟩

theorem int_info2 : (Tryd.prog.info? 2).map (fun i => (i.zero, i.size, i.bytes)) = some (some (.int .i64 0), 1, 8) := by kernel_rfl

set_option maxRecDepth 100000 in
set_option maxHeartbeats 1000000 in
theorem sums_any (A : Option Addr) (n c : Nat) (zs : List Int) (w : World) (he : Env w) (hr : Rd w w.heap.size A n (i64s zs)) (hz : InRange zs) (hn : n * 8 ≤ 140737488351232) :
    Calls Tryd.prog 5 #[.slice A n c] w fun e w' => e = .returned (.bool true) ∧ Below w.heap.size w w' := by
  obtain ⟨i0, hi0, hz0, hz1, hz2⟩ := info_parts int_info2
  have hl : zs.length = n := by have := hr.1; simpa [i64s] using this
  have n0 : (0 : Int) ≤ (n : Int) := by omega
  have n1 : (n : Int) ≤ 9223372036854775807 := by omega
  have n1' : n ≤ 9223372036854775807 := by omega
  have one : ∀ u ∈ i64s zs, u.oneCell' = true := by
    intro u hu
    obtain ⟨z, _, rfl⟩ := List.mem_map.1 hu
    rfl
  have HN := Lib.hid hn
  have HR := Lib.hid hr
  have HZ := Lib.hid hz
  have HO := Lib.hid one
  clear hn hr hz one
  go_enter Tryd.func5, Tryd.ntmps5
  go_wp2_with (at_builtin; refine wpList_append_nil_rd _ rfl (.tmp 6) (.tmp 7) _ rfl 2 i0 _ 8 Tryd.underlying30 hi0 hz0 hz1 hz2 rfl rfl w.heap.size A n c (i64s zs) rfl HR.out HO.out (by have := HN.out; simp only [maxLen]; omega) (by have := HN.out; omega) ?_; intro A' c' w1 hown hb1)
  have R1 := Lib.hid (Rd.of_own hown)
  have R2 := Lib.hid (HR.out.below hb1)
  have HB := Lib.hid hb1
  clear hown hb1
  refine (sum_any _ A' n c' zs _ R1.out HZ.out n1').mono ?_; rintro e w2 ⟨rfl, rfl⟩
  go_wp2_with fail
  go_loopw [5] (fun i wr => ∃ k : Nat, k ≤ n ∧ i = .int .i64 k ∧ ∃ m, wr = w1.drewN m) (fun i _ => n - (intOf i).toNat)
  case atStart => exact ⟨0, Nat.zero_le _, rfl, 0, rfl⟩
  case round =>
    obtain ⟨k, hk, rfl, m, rfl⟩ := hrel
    by_cases hlt : k < n
    · obtain ⟨ad, z, rfl, hzk, hc⟩ := rd_int R1.out hlt
      obtain ⟨ad2, z2, rfl, hzk2, hc2⟩ := rd_int R2.out hlt
      obtain rfl : z2 = z := Option.some.inj (hzk2.symm.trans hzk)
      clear hzk hzk2
      go_wp2_with fail
      go_quiet (fail)
      go_wp2_with fail
      go_roundw
      case rel => exact ⟨k + 1, by omega, by go_num, _, rfl⟩
      case measure => simp [intOf]; omega
    · go_wp2_with fail
      refine (refSum_any _ A n c zs _ (R2.out.drewN m) HZ.out n1').mono ?_; rintro e w2 ⟨rfl, rfl⟩
      go_wp2_with fail
      refine (known_any _ (env_drewN (he.below HB.out) m)).mono ?_; rintro e w5 ⟨rfl, hb⟩
      go_wp2_with fail
      go_ret
      exact ⟨rfl, HB.out.trans ((below_of_drewN hb).mono HB.out.size)⟩
end Go.Proofs.YtjmljepndicdmaaDoor
