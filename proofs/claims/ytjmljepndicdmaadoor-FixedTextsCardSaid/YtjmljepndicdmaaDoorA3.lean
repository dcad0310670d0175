import Derived.Test.YtjmljepndicdmaaDoorA2
import Derived.Test.YtjmljepndicdmaaDoorS1
import Derived.Test.YtjmljepndicdmaaDoorShelfA
import Derived.Deep.QuietTactic
import Derived.BigQuiet
set_option linter.unusedVariables false
set_option linter.unusedSimpArgs false
namespace Go.Proofs.YtjmljepndicdmaaDoor
open Go.RowKit

/-- What the walk of a mending loop needs to know of its guess. -/
def Mends (P : Int → Int → Prop) (n1 n0 u1 Q : Int) : Prop :=
  (∀ q r, P q r → (4294967296 ≤ q ∨ 4294967296 * r + u1 < q * n0) → 1 ≤ q ∧ (r + n1 < 4294967296 → P (q - 1) (r + n1)) ∧ (4294967296 ≤ r + n1 → q - 1 = Q)) ∧
  (∀ q r, P q r → q * n0 ≤ 4294967296 * r + u1 → q = Q) ∧ (∀ q r, P q r → 0 ≤ q ∧ q ≤ 4294967297 ∧ 0 ≤ r ∧ r < 4294967296)

theorem mul_small (q n0 : Int) (hq0 : 0 ≤ q) (hq : q < 4294967296) (hn : 0 ≤ n0) (hn' : n0 < 4294967296) : IntKind.u64.wrap (q * n0) = q * n0 := by
  have h1 : 0 ≤ q * n0 := Int.mul_nonneg hq0 hn
  have h2 : q * n0 ≤ 4294967295 * 4294967295 := Int.mul_le_mul (by omega) (by omega) hn (by omega)
  rw [IntKind.wrap_u64]; omega

set_option maxRecDepth 100000 in
set_option maxHeartbeats 1000000 in
theorem div64_core (hi lo y : Nat) (w : World) (hlo : lo < 18446744073709551616) (hy : y < 18446744073709551616) (hh : hi < y) (h0 : hi ≠ 0)
   (s : Nat) (v n1 n0 u32 un10 u1 u0 q0 p0 r0 Q1 Q0 u21 q2 p2 r2 R0 R pv pv0 : Int) (P1 P2 : Int → Int → Prop)
   (hs : s ≤ 63) (hn1 : 2147483648 ≤ n1) (hn1' : n1 < 4294967296) (hn0l : 0 ≤ n0) (hn0 : n0 < 4294967296) (hu1l : 0 ≤ u1) (hu1 : u1 < 4294967296) (hu0l : 0 ≤ u0) (hu0 : u0 < 4294967296) (hul : 0 ≤ u32) (hul' : 0 ≤ u21)
   (hQ1l : 0 ≤ Q1) (hQ1 : Q1 < 4294967296) (hQ0l : 0 ≤ Q0) (hQ0 : Q0 < 4294967296)
   (M1 : Hid (Mends P1 n1 n0 u1 Q1)) (M2 : Hid (Mends P2 n1 n0 u0 Q0)) (S1 : Hid (P1 q0 r0)) (S2 : Hid (P2 q2 r2))
   (e1 : (64 : Int) - (Lib.bitLen y : Int) = (s : Int))  (e2 : min s 64 = s) (e3 : IntKind.u64.wrap (↑y * 2 ^ s) = v)
   (e4 : v / 4294967296 = n1) (e5 : bits .and .u64 v 4294967295 = n0)
   (e6 : bits .or .u64 (IntKind.u64.wrap (↑hi * 2 ^ s)) (↑lo / 2 ^ (64 - s)) = u32)
   (e7 : IntKind.u64.wrap (↑lo * 2^s) = un10) (e8 : un10 / 4294967296 = u1) (e9 : bits .and .u64 un10 4294967295 = u0)
   (e10 : IntKind.u64.wrap (u32.tdiv n1) = q0) (e11 : IntKind.u64.wrap (q0 * n1) = p0) (e12 : IntKind.u64.wrap (u32 - p0) = r0)
   (e20 : IntKind.u64.wrap (Q1 * v) = pv) (e21 : IntKind.u64.wrap (IntKind.u64.wrap (IntKind.u64.wrap (u32 * 4294967296) + u1) - pv) = u21)
   (e22 : IntKind.u64.wrap (u21.tdiv n1) = q2) (e23 : IntKind.u64.wrap (q2 * n1) = p2) (e24 : IntKind.u64.wrap (u21 - p2) = r2)
   (e25 : IntKind.u64.wrap (Q0 * v) = pv0) (e26 : IntKind.u64.wrap (IntKind.u64.wrap (IntKind.u64.wrap (u21 * 4294967296) + u0) - pv0) = R0) (e27 : R0 / 2 ^ s = R) :
    Calls Tryd.prog 55 #[.int .u64 hi, .int .u64 lo, .int .u64 y] w fun e w' => e = .returned (.tuple #[.int .u64 (Q1 * 4294967296 + Q0), .int .u64 R]) ∧ w = w' := by
  have hy0 : ((y : Int) == 0) = false := by simp; omega
  have hyh : ¬ (y : Int) ≤ hi := by omega
  have h0' : ((hi : Int) == 0) = false := by simp; omega
  go_enter Tryd.func55, Tryd.ntmps55
  go_wp2_with (go_at_call 44; refine (Tryd.bits_LeadingZeros64 _ _ (by omega) (by omega)).mono ?_; rintro e w' ⟨rfl, rfl⟩)
  clear hy0 hyh h0' h0 hlo hy hh e1 e2 e3 e4 e5 e6 e7 e8 e9 e10 e11 e12
  go_loop [15, 16] (fun a b => ∃ q r : Int, Hid (P1 q r) ∧ a = .int .u64 q ∧ b = .int .u64 r) (fun a _ => (intOf a).toNat)
  case atStart => exact ⟨q0, r0, S1, rfl, rfl⟩
  case round =>
    obtain ⟨q, r, K, rfl, rfl⟩ := hrel
    obtain ⟨iq0, iq, ir0, ir⟩ := M1.out.2.2 q r K.out
    by_cases ht : 4294967296 ≤ q ∨ 4294967296 * r + u1 < q * n0
    · obtain ⟨hp, hstep, hout⟩ := M1.out.1 q r K.out ht
      obtain ⟨z, hz⟩ : ∃ z, (¬ 4294967296 ≤ q → IntKind.u64.wrap (q * n0) = z) ∧ (¬ 4294967296 ≤ q → 4294967296 * r + u1 < z) := by
        refine ⟨q * n0, fun h => mul_small q n0 iq0 (by omega) hn0l hn0, fun h => by omega⟩
      by_cases hb : r + n1 < 4294967296
      · have HS := Lib.hid (hstep hb)
        clear hstep hout
        by_cases hq : 4294967296 ≤ q
        · clear hz ht
          go_wp2_with fail
          go_round
          case rel => exact ⟨q - 1, r + n1, HS, rfl, rfl⟩
          case measure => simp [intOf]; omega
        · have hz1 := hz.1 hq
          have hz2 := hz.2 hq
          clear hz ht
          go_wp2_with fail
          go_round
          case rel => exact ⟨q - 1, r + n1, HS, rfl, rfl⟩
          case measure => simp [intOf]; omega
      · have HS := hout (by omega)
        clear hstep hout
        by_cases hq : 4294967296 ≤ q
        · clear hz ht
          go_wp2_with fail
          go_loop [18, 16] (fun a b => ∃ g h : Int, Hid (P2 g h) ∧ a = .int .u64 g ∧ b = .int .u64 h) (fun a _ => (intOf a).toNat)
          case atStart => exact ⟨q2, r2, S2, rfl, rfl⟩
          case round =>
            obtain ⟨g, h, K', rfl, rfl⟩ := hrel
            obtain ⟨ig0, ig, ih0, ih⟩ := M2.out.2.2 g h K'.out
            by_cases ht : 4294967296 ≤ g ∨ 4294967296 * h + u0 < g * n0
            · obtain ⟨hp', hstep, hout⟩ := M2.out.1 g h K'.out ht
              obtain ⟨z', hz⟩ : ∃ z, (¬ 4294967296 ≤ g → IntKind.u64.wrap (g * n0) = z) ∧ (¬ 4294967296 ≤ g → 4294967296 * h + u0 < z) := by
                refine ⟨g * n0, fun hh => mul_small g n0 ig0 (by omega) hn0l hn0, fun hh => by omega⟩
              by_cases hb' : h + n1 < 4294967296
              · have HS' := Lib.hid (hstep hb')
                clear hstep hout
                by_cases hg : 4294967296 ≤ g
                · clear hz ht
                  go_wp2_with fail
                  go_round
                  case rel => exact ⟨g - 1, h + n1, HS', rfl, rfl⟩
                  case measure => simp [intOf]; omega
                · have hz1' := hz.1 hg
                  have hz2' := hz.2 hg
                  clear hz ht
                  go_wp2_with fail
                  go_round
                  case rel => exact ⟨g - 1, h + n1, HS', rfl, rfl⟩
                  case measure => simp [intOf]; omega
              · have HS' := hout (by omega)
                clear hstep hout
                by_cases hg : 4294967296 ≤ g
                · clear hz ht
                  go_wp2_with fail
                  go_ret2
                  exact ⟨rfl, rfl⟩
                · have hz1' := hz.1 hg
                  have hz2' := hz.2 hg
                  clear hz ht
                  go_wp2_with fail
                  go_ret2
                  exact ⟨rfl, rfl⟩
            · have HS' : g = Q0 := M2.out.2.1 g h K'.out (by omega)
              have hg : ¬ 4294967296 ≤ g := by omega
              obtain ⟨z', hz1', hz2'⟩ : ∃ z, IntKind.u64.wrap (g * n0) = z ∧ z ≤ 4294967296 * h + u0 :=
                ⟨g * n0, mul_small g n0 ig0 (by omega) hn0l hn0, by omega⟩
              subst HS'
              clear ht
              go_wp2_with fail
              go_ret2
              exact ⟨rfl, rfl⟩
        · have hz1 := hz.1 hq
          have hz2 := hz.2 hq
          clear hz ht
          go_wp2_with fail
          go_loop [18, 16] (fun a b => ∃ g h : Int, Hid (P2 g h) ∧ a = .int .u64 g ∧ b = .int .u64 h) (fun a _ => (intOf a).toNat)
          case atStart => exact ⟨q2, r2, S2, rfl, rfl⟩
          case round =>
            obtain ⟨g, h, K', rfl, rfl⟩ := hrel
            obtain ⟨ig0, ig, ih0, ih⟩ := M2.out.2.2 g h K'.out
            by_cases ht : 4294967296 ≤ g ∨ 4294967296 * h + u0 < g * n0
            · obtain ⟨hp', hstep, hout⟩ := M2.out.1 g h K'.out ht
              obtain ⟨z', hz⟩ : ∃ z, (¬ 4294967296 ≤ g → IntKind.u64.wrap (g * n0) = z) ∧ (¬ 4294967296 ≤ g → 4294967296 * h + u0 < z) := by
                refine ⟨g * n0, fun hh => mul_small g n0 ig0 (by omega) hn0l hn0, fun hh => by omega⟩
              by_cases hb' : h + n1 < 4294967296
              · have HS' := Lib.hid (hstep hb')
                clear hstep hout
                by_cases hg : 4294967296 ≤ g
                · clear hz ht
                  go_wp2_with fail
                  go_round
                  case rel => exact ⟨g - 1, h + n1, HS', rfl, rfl⟩
                  case measure => simp [intOf]; omega
                · have hz1' := hz.1 hg
                  have hz2' := hz.2 hg
                  clear hz ht
                  go_wp2_with fail
                  go_round
                  case rel => exact ⟨g - 1, h + n1, HS', rfl, rfl⟩
                  case measure => simp [intOf]; omega
              · have HS' := hout (by omega)
                clear hstep hout
                by_cases hg : 4294967296 ≤ g
                · clear hz ht
                  go_wp2_with fail
                  go_ret2
                  exact ⟨rfl, rfl⟩
                · have hz1' := hz.1 hg
                  have hz2' := hz.2 hg
                  clear hz ht
                  go_wp2_with fail
                  go_ret2
                  exact ⟨rfl, rfl⟩
            · have HS' : g = Q0 := M2.out.2.1 g h K'.out (by omega)
              have hg : ¬ 4294967296 ≤ g := by omega
              obtain ⟨z', hz1', hz2'⟩ : ∃ z, IntKind.u64.wrap (g * n0) = z ∧ z ≤ 4294967296 * h + u0 :=
                ⟨g * n0, mul_small g n0 ig0 (by omega) hn0l hn0, by omega⟩
              subst HS'
              clear ht
              go_wp2_with fail
              go_ret2
              exact ⟨rfl, rfl⟩
    · have HS : q = Q1 := M1.out.2.1 q r K.out (by omega)
      have hq : ¬ 4294967296 ≤ q := by omega
      obtain ⟨z, hz1, hz2⟩ : ∃ z, IntKind.u64.wrap (q * n0) = z ∧ z ≤ 4294967296 * r + u1 :=
        ⟨q * n0, mul_small q n0 iq0 (by omega) hn0l hn0, by omega⟩
      subst HS
      clear ht
      go_wp2_with fail
      go_loop [18, 16] (fun a b => ∃ g h : Int, Hid (P2 g h) ∧ a = .int .u64 g ∧ b = .int .u64 h) (fun a _ => (intOf a).toNat)
      case atStart => exact ⟨q2, r2, S2, rfl, rfl⟩
      case round =>
        obtain ⟨g, h, K', rfl, rfl⟩ := hrel
        obtain ⟨ig0, ig, ih0, ih⟩ := M2.out.2.2 g h K'.out
        by_cases ht : 4294967296 ≤ g ∨ 4294967296 * h + u0 < g * n0
        · obtain ⟨hp', hstep, hout⟩ := M2.out.1 g h K'.out ht
          obtain ⟨z', hz⟩ : ∃ z, (¬ 4294967296 ≤ g → IntKind.u64.wrap (g * n0) = z) ∧ (¬ 4294967296 ≤ g → 4294967296 * h + u0 < z) := by
            refine ⟨g * n0, fun hh => mul_small g n0 ig0 (by omega) hn0l hn0, fun hh => by omega⟩
          by_cases hb' : h + n1 < 4294967296
          · have HS' := Lib.hid (hstep hb')
            clear hstep hout
            by_cases hg : 4294967296 ≤ g
            · clear hz ht
              go_wp2_with fail
              go_round
              case rel => exact ⟨g - 1, h + n1, HS', rfl, rfl⟩
              case measure => simp [intOf]; omega
            · have hz1' := hz.1 hg
              have hz2' := hz.2 hg
              clear hz ht
              go_wp2_with fail
              go_round
              case rel => exact ⟨g - 1, h + n1, HS', rfl, rfl⟩
              case measure => simp [intOf]; omega
          · have HS' := hout (by omega)
            clear hstep hout
            by_cases hg : 4294967296 ≤ g
            · clear hz ht
              go_wp2_with fail
              go_ret2
              exact ⟨rfl, rfl⟩
            · have hz1' := hz.1 hg
              have hz2' := hz.2 hg
              clear hz ht
              go_wp2_with fail
              go_ret2
              exact ⟨rfl, rfl⟩
        · have HS' : g = Q0 := M2.out.2.1 g h K'.out (by omega)
          have hg : ¬ 4294967296 ≤ g := by omega
          obtain ⟨z', hz1', hz2'⟩ : ∃ z, IntKind.u64.wrap (g * n0) = z ∧ z ≤ 4294967296 * h + u0 :=
            ⟨g * n0, mul_small g n0 ig0 (by omega) hn0l hn0, by omega⟩
          subst HS'
          clear ht
          go_wp2_with fail
          go_ret2
          exact ⟨rfl, rfl⟩
end Go.Proofs.YtjmljepndicdmaaDoor
