import Derived.Test.YtjmljepndicdmaaDoorB1
import Derived.Test.YtjmljepndicdmaaDoorS3
import Derived.Test.YtjmljepndicdmaaDoorShelfA
import Derived.Lib.LaidTab
import Derived.Lib.AtoiErrMem
import Derived.Lib.ItoaMem
set_option linter.unusedVariables false
set_option linter.unusedSimpArgs false
namespace Go.Proofs.YtjmljepndicdmaaDoor
open Go.RowKit

/-- What the walks ask of the package-level variables. -/
def Env (w : World) : Prop := (∃ tp p, w.var? Tryd.prog "strconv.ErrSyntax" = some #[.iface tp p]) ∧ Lib.TabIs Tryd.prog w "internal/strconv.uint64pow10" .u64 Lib.pow10Tab
theorem gErrSyntax : Tryd.prog.globalNamed "strconv.ErrSyntax" = some 3 := by kernel_rfl
theorem gPow10 : Tryd.prog.globalNamed "internal/strconv.uint64pow10" = some 2 := by kernel_rfl
theorem var_lt {w : World} {n : String} {g : Nat} {cs : Array Value} (hg : Tryd.prog.globalNamed n = some g) (h : w.var? Tryd.prog n = some cs) : g < w.heap.size := by
  unfold World.var? at h
  simp only [hg, Option.bind_some] at h
  by_cases hlt : g < w.heap.size
  · exact hlt
  · rw [Array.getElem?_eq_none (by omega)] at h; simp at h
theorem Env.below {w w' : World} (h : Env w) (hb : Below w.heap.size w w') : Env w' := by
  obtain ⟨⟨tp, p, h2⟩, h3⟩ := h
  exact ⟨⟨tp, p, var?_below hb gErrSyntax (var_lt gErrSyntax h2) h2⟩, var?_below hb gPow10 (var_lt gPow10 h3) h3⟩

theorem puint_ok (s : ByteArray) (w : World) (hmax : s.size ≤ 9223372036854775806) (v : Int) (u : Nat) (hv : v = u) (h : Lib.parseUintB 64 s.data.toList = .ok u) :
    Calls Tryd.prog 50 #[.string s, .int .i64 10, .int .i64 64] w fun e w' => e = .returned (.tuple #[.int .u64 v, .nilIface]) ∧ Below w.heap.size w w' := by
  subst hv
  refine (Tryd.strconv_ParseUint_10_at64_ok s hmax u h w).mono ?_
  rintro e w' ⟨rfl, hw⟩
  refine ⟨rfl, ?_⟩
  rcases hw with rfl | rfl
  · exact Below.refl _ _
  · exact Lib.bytesWorld_below w 5 s

/-- Any one value. -/
def AnyIface (w : World) (e : Ending) (w' : World) : Prop := ∃ v, e = .returned (.tuple #[.int .u64 0, v]) ∧ Below w.heap.size w w'
theorem puint_none (w : World) (he : Env w) : Calls Tryd.prog 50 #[.string ⟨#[]⟩, .int .i64 10, .int .i64 64] w (AnyIface w) := by
  obtain ⟨tp, p, hv⟩ := he.1
  refine (Any.strconv_ParseUint_10_at64_syntax_var Tryd.laysPu14 ⟨#[]⟩ (by decide) (by decide) tp p w hv).mono ?_
  rintro e w' ⟨N, rfl, _, _, hb⟩
  exact ⟨_, rfl, hb⟩

theorem ret_u64 {a b : Int} (h : a = b) : Ending.returned (.int .u64 a) = .returned (.int .u64 b) := by rw [h]

set_option maxHeartbeats 400000 in
theorem part_none (w : World) (he : Env w) : Calls Tryd.prog 51 #[.string ⟨#[]⟩] w fun e w' => e = .returned (.int .u64 0) ∧ Below w.heap.size w w' := by
  have C := puint_none w he
  go_enter Tryd.func51, Tryd.ntmps51
  go_wp2_with (go_at_call 50; refine C.mono ?_; rintro e w' ⟨v, rfl, hb⟩)
  go_ret
  exact ⟨rfl, hb⟩

set_option maxHeartbeats 400000 in
theorem part_any (s : ByteArray) (w : World) (hd : s.data.toList.all dig = true) (h0 : s.size ≠ 0) (h6 : s.size ≤ 6) (v : Int) (hv : v = partF s.data.toList) : Calls Tryd.prog 51 #[.string s] w fun e w' => e = .returned (.int .u64 v) ∧ Below w.heap.size w w' := by
  have hl : s.data.toList.length = s.size := by simp
  have hne : s.data.toList ≠ [] := by intro e; rw [e] at hl; simp at hl; omega
  have hok := parseUintB_ok s.data.toList hne hd (by omega)
  have hlt := numOf_lt s.data.toList hd
  rw [hl] at hlt
  unfold partF at hv
  rw [if_neg hne, hl] at hv
  obtain ⟨u, hu⟩ : ∃ u : Int, u = numOf s.data.toList := ⟨_, rfl⟩
  have C := puint_ok s w (by omega) u _ hu hok
  generalize numOf s.data.toList = k at *
  have hsz : s.size = 1 ∨ s.size = 2 ∨ s.size = 3 ∨ s.size = 4 ∨ s.size = 5 ∨ s.size = 6 := by omega
  clear hd hne hok hl h0 h6
  rcases hsz with h | h | h | h | h | h
  all_goals
    rw [h] at hlt hv
    have u0 : 0 ≤ u := by omega
    have u1 : u < 1000000 := by omega
    have HV := Lib.hid hv
    have HU := Lib.hid hu
    clear hv hu hlt
    go_enter Tryd.func51, Tryd.ntmps51
    go_wp2_with (go_at_call 50; refine C.mono ?_; rintro e w' ⟨rfl, hb⟩)
    go_ret
    exact ⟨ret_u64 (by have := HV.out; have := HU.out; omega), hb⟩
end Go.Proofs.YtjmljepndicdmaaDoor
