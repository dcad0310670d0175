import Derived.Test.YtkedidjjhhjdbaaGreatDoorBc0
import Derived.Test.YtkedidjjhhjdbaaGreatDoorBc16
set_option linter.unusedVariables false
set_option linter.unusedSimpArgs false
namespace Go.Proofs.YtkedidjjhhjdbaaGreatDoor.Pr
open Go.RowKit Go.Proofs.YtkedidjjhhjdbaaGreatDoorW.PrintWords Go.Proofs.YtkedidjjhhjdbaaGreatDoorW.PrintLast Go.Proofs.YtkedidjjhhjdbaaGreatDoorW.PrintMore
def attr_Unquote.f (k : Nat) (a0 : ByteArray) : Option (ByteArray × Int) :=
  (attr_reader_quoted.f k a0 0 false).bind fun x => if x.2.2.2 = true then some (⟨#[]⟩, 3) else if x.2.2.1 < (a0.size : Int) then some (⟨#[]⟩, 3) else some (x.1, 0)
set_option maxHeartbeats 4000000 in
set_option maxRecDepth 100000 in
theorem attr_Unquote.calls (k : Nat) (a0 : ByteArray) (r1 : ByteArray) (r2 : Int) (w : World) (h : attr_Unquote.f k a0 = some (r1, r2)) :
  Calls Tryz.prog 109 #[.string a0] w fun e w' => e = .returned (.tuple #[.string r1, .int .i64 r2]) ∧ Below w.heap.size w w' := by
 unfold attr_Unquote.f at h
 have hu161 := Tryz.underlying161
 obtain ⟨⟨t, s, i, bad⟩, hq, h⟩ := Option.bind_eq_some_iff.mp h
 have HQ := Aside0.mk hq; have HI := Aside0.mk (IsS161.new w w a0 0 false (Below.refl _ _)); have HB := Aside0.mk ((Below.refl w.heap.size w).alloc (Nat.le_refl _) (.cells #[.string a0, .int .i64 0, .bool false] 161)); clear hq
 go_enter Tryz.func109, Tryz.ntmps109
 go_wp2_with fail
 refine (attr_reader_quoted.calls k _ a0 0 false t s i bad w _ HI.out HB.out HQ.out).mono ?_
 rintro e w1 ⟨rfl, hi, hb, hk⟩
 obtain ⟨HG, hg⟩ := hi
 have hc0 := cellS161_0 HG; have hc1 := cellS161_1 HG; have hc2 := cellS161_2 HG; have HBB := Aside0.mk hb; clear hb hk HG hg HI HB HQ; by_cases c1 : bad = true
 ·
  subst c1; rw [if_pos rfl] at h
  simp only [Option.some.injEq, Prod.mk.injEq] at h
  obtain ⟨rfl, rfl⟩ := h
  go_wp2
  repeat (go_quiet (fail); try go_wp2)
  go_ret2
  exact ⟨rfl, by first | exact HBB.out | exact pw_below_drewN HBB.out _⟩
 obtain rfl : bad = false := Bool.eq_false_iff.mpr c1
 rw [if_neg (by simp)] at h; by_cases c2 : i < (a0.size : Int)
 ·
  rw [if_pos c2] at h
  simp only [Option.some.injEq, Prod.mk.injEq] at h
  obtain ⟨rfl, rfl⟩ := h
  have c2b : decide (i < (a0.size : Int)) = true := decide_eq_true c2
  clear c2 c1; go_wp2
  repeat (go_quiet (fail); try go_wp2)
  go_ret2
  exact ⟨rfl, by first | exact HBB.out | exact pw_below_drewN HBB.out _⟩
 rw [if_neg c2] at h
 simp only [Option.some.injEq, Prod.mk.injEq] at h
 obtain ⟨rfl, rfl⟩ := h
 have c2b : decide (i < (a0.size : Int)) = false := decide_eq_false c2
 clear c2 c1; go_wp2
 repeat (go_quiet (fail); try go_wp2)
 go_ret2
 exact ⟨rfl, by first | exact HBB.out | exact pw_below_drewN HBB.out _⟩
end Go.Proofs.YtkedidjjhhjdbaaGreatDoor.Pr
