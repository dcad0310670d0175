import Derived.Test.YtnfanpjfhdlddaaGreatDoorQFits6
import Derived.Test.YtnfanpjfhdlddaaGreatDoorQFits12
import Derived.Test.YtnfanpjfhdlddaaGreatDoorQFits5
import Derived.Test.YtnfanpjfhdlddaaGreatDoorQFits3
section
set_option linter.unusedVariables false
set_option linter.unusedSimpArgs false
namespace Go.Proofs.YtnfanpjfhdlddaaGreatDoor.Pr
open Go.RowKit Go.Proofs.YtnfanpjfhdlddaaGreatDoorW.PrintWords Go.Proofs.YtnfanpjfhdlddaaGreatDoorW.PrintLast Go.Proofs.YtnfanpjfhdlddaaGreatDoorW.PrintMore
set_option maxRecDepth 100000 in
theorem known_at : belfrylaw04_known.f 60 = some true := by kernel_rfl
theorem known_ev : Ev (fun k => belfrylaw04_known.f k) true := by
 refine ⟨60, fun k hk => ?_⟩
 induction k with
 | zero => omega
 | succ k ih =>
  by_cases h : 60 ≤ k
  ·
   exact belfrylaw04_known.mono k _ (ih h)
  ·
   have : k + 1 = 60 := by omega
   show belfrylaw04_known.f (k + 1) = _
   rw [this]; exact known_at
end Go.Proofs.YtnfanpjfhdlddaaGreatDoor.Pr
end
section
set_option linter.unusedVariables false
set_option linter.unusedSimpArgs false
namespace Go.Proofs.YtnfanpjfhdlddaaGreatDoor.Pr
open Go.RowKit Go.Proofs.YtnfanpjfhdlddaaGreatDoorW.PrintWords Go.Proofs.YtnfanpjfhdlddaaGreatDoorW.PrintLast Go.Proofs.YtnfanpjfhdlddaaGreatDoorW.PrintMore
def getL (key : ByteArray) : List S45 → ByteArray × Bool
  | [] => (⟨#[]⟩, false)
  | x :: l => if keyL x = key.data.toList then (x.f1, true) else getL key l
theorem get_l0 (key : ByteArray) (l : List S45) (hl : l.length < 4398046511104) : ∀ (n i : Nat), i + n = l.length → ∀ k, n < k → attr_Get.l0 k key l (l.length : Int) (i : Int) = some (getL key (l.drop i))
 | _, _, _, 0, hk => absurd hk (by omega)
 | 0, i, hn, k + 1, hk => by
  rw [attr_Get.l0, if_neg (by omega), List.drop_of_length_le (show l.length ≤ i by omega)]; rfl
 | n + 1, i, hn, k + 1, hk => by
  have hi : i < l.length := by omega
  rw [attr_Get.l0, if_pos (by omega), if_pos (by omega), if_pos (by omega), rd_at l i hi, drop_cons l i hi, getL, wrap_small (n := (i : Int) + 1) (by omega) (by omega), show (i : Int) + 1 = ((i + 1 : Nat) : Int) by omega, get_l0 key l hl n (i + 1) (by omega) k (by omega)]
  simp only [Lib.toList_data]
  by_cases h : keyL l[i] = key.data.toList
  ·
   rw [if_pos h, if_pos h]
  ·
   rw [if_neg h, if_neg h]
theorem get_ev (key : ByteArray) (l : List S45) (hl : l.length < 4398046511104) : Ev (fun k => attr_Get.f k l key) (getL key l) := by
 refine ⟨l.length + 1, fun k hk => ?_⟩
 have := get_l0 key l hl l.length 0 (by omega) k (by omega)
 exact this
end Go.Proofs.YtnfanpjfhdlddaaGreatDoor.Pr
end
section
set_option linter.unusedVariables false
set_option linter.unusedSimpArgs false
namespace Go.Proofs.YtnfanpjfhdlddaaGreatDoor.Pr
open Go.RowKit Go.Proofs.YtnfanpjfhdlddaaGreatDoorW.PrintWords Go.Proofs.YtnfanpjfhdlddaaGreatDoorW.PrintLast Go.Proofs.YtnfanpjfhdlddaaGreatDoorW.PrintMore
def strings_Contains.f (a0 a1 : ByteArray) : Option Bool := if a0.size < 4294967281 then some (Lib.contains a0.data.toList a1.data.toList) else none
theorem strings_Contains.calls (a0 a1 : ByteArray) (r : Bool) (w : World) (h : strings_Contains.f a0 a1 = some r)
  (he_ : EnvW w := by repeat (first | with_reducible assumption | with_reducible exact env_of (by with_reducible assumption) (by with_reducible assumption) | with_reducible exact env_out (by with_reducible assumption) | with_reducible apply env_alloc | with_reducible apply env_drewN | with_reducible apply env_drew | with_reducible refine env_set ?_ (by with_reducible assumption) (by with_reducible assumption))) :
  Calls Tryz.prog 45 #[.string a0, .string a1] w fun e w' => e = .returned (.bool r) ∧ Drawn0 w w' := by
 unfold strings_Contains.f at h
 by_cases hs : a0.size < 4294967281
 ·
  rw [if_pos hs] at h
  obtain rfl := Option.some.inj h
  obtain ⟨_, m, hm⟩ := he_
  exact (Tryz.strings_Contains a0 a1 m w hs hm).mono fun e w' ⟨he, hw⟩ => ⟨he, by rw [hw]; exact Drawn0.refl _⟩
 ·
  rw [if_neg hs] at h
  cases h
end Go.Proofs.YtnfanpjfhdlddaaGreatDoor.Pr
end
