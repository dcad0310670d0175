import Derived.Test.YtnfanpjfhdlddaaGreatDoorQFits5
import Derived.Test.YtnfanpjfhdlddaaGreatDoorQFits2
import Derived.Lib.SliceRun
import Derived.Test.YtnfanpjfhdlddaaGreatDoorQFits14
section
set_option linter.unusedVariables false
set_option linter.unusedSimpArgs false
namespace Go.Proofs.YtnfanpjfhdlddaaGreatDoor.Pr
open Go.RowKit Go.Proofs.YtnfanpjfhdlddaaGreatDoorW.PrintWords Go.Proofs.YtnfanpjfhdlddaaGreatDoorW.PrintLast Go.Proofs.YtnfanpjfhdlddaaGreatDoorW.PrintMore
structure StopAt2 (p : Prop) : Prop where
  out : p
set_option maxHeartbeats 1000000 in
set_option maxRecDepth 100000 in
theorem slices_Grow_M.calls (n : Nat) (w : World) (hn : n * 40 ≤ 140737488355328) :
  Calls Tryz.prog 64 #[.slice none 0 0, .int .i64 n] w fun e w' => ∃ v0_ : Value, e = .returned v0_ ∧ Kd.R k54 54 w' w.heap.size (fun _ => True) v0_ ([] : List S54) ∧ Below w.heap.size w w' := by
 have hu48 := Tryz.underlying48
 have hn2 : n ≤ 140737488355328 := by omega
 rcases Nat.eq_zero_or_pos n with h0 | h0
 ·
  subst h0
  clear hn hn2
  go_enter Tryz.func64, Tryz.ntmps64
  go_wp2
  go_ret
  exact ⟨_, rfl, Kd.R_nil _ _ _ _ _, Below.refl _ _⟩
 ·
  have HL := Aside0.mk hn
  clear hn
  go_enter Tryz.func64, Tryz.ntmps64
  go_wp2_with (first | ((with_reducible refine gate_builtin (b := .append) (xs := #[.tmp 20, .tmp 21]) rfl ?_); at_builtin; refine Kd.R_append_zeros k54 (w0 := w) w.heap.size rfl (.tmp 20) (.tmp 21) 48 3 54 (.agg #[.int .i64 0, .string ⟨#[]⟩, .string ⟨#[]⟩]) 40 rfl Tryz.underlying48 Tryz.underlying3 info54 rfl (by decide) (by omega) (.slice none 0 0) ([] : List S54) z54 (n : Int) (fun _ => True) rfl rfl ?aZ (fun _ _ => trivial) ?aR (by omega) ?aB (Nat.le_refl _) ?aL ?_; (case aZ => exact k54_mkM _ _ _ z54); (case aR => exact Kd.R_nil _ _ _ _ _); (case aB => exact Below.refl _ _); (case aL => have := HL.out; simp only [List.length_nil]; omega); intro v1 w1 ho hb hg hat; obtain ⟨g, c, e1, hbg, _⟩ := Kd.R_form ho (by simp; omega); have hnc := (by have := ho; rw [e1] at this; exact (Kd.R_reads' this).2.1 : _); have HO := Aside0.mk ho; have HB := Aside0.mk hb; clear ho hb hg hat hbg; subst e1; simp only [List.nil_append, List.length_replicate] at HO hnc ⊢))
  go_ret
  exact ⟨_, rfl, by have := Kd.R_take HO.out (m := 0) (Nat.zero_le _); simpa using this, HB.out⟩
set_option maxHeartbeats 2000000 in
set_option maxRecDepth 100000 in
theorem slices_Concat_M.calls (b : Nat) (A0 A1 : Option Addr) (c0 c1 : Nat) (l0 l1 : List S54) (w : World) (h0 : w.cell? ⟨b, 0, none⟩ = some (.slice A0 l0.length c0)) (h1 : w.cell? ⟨b, 1, none⟩ = some (.slice A1 l1.length c1)) (hb : b < w.heap.size)
  (hr0 : Kd.C k54 w A0 l0.length l0) (hr1 : Kd.C k54 w A1 l1.length l1) (hn : (l0.length + l1.length) * 40 ≤ 140737488355328) :
  Calls Tryz.prog 47 #[.slice (some ⟨b, 0, none⟩) 2 2] w fun e w' => ∃ v0_ : Value, e = .returned v0_ ∧ Kd.R k54 54 w' w.heap.size (fun _ => True) v0_ (l0 ++ l1) ∧ Below w.heap.size w w' := by
 have hu48 := Tryz.underlying48
 have hu80 := Tryz.underlying80
 have hn2 : l0.length + l1.length ≤ 3518437208883 := by omega
 have HL := Aside0.mk hn
 have HR0 := Aside0.mk hr0
 have HR1 := Aside0.mk hr1
 clear hn hr0 hr1
 go_enter Tryz.func47, Tryz.ntmps47
 go_wp2_with fail
 refine wp_loop_rounds 3 ?_
 rw [rounds_succ]
 go_wp2_with fail
 rw [rounds_succ]
 go_wp2_with fail
 rw [rounds_succ]
 go_wp2_with fail
 refine (slices_Grow_M.calls (l0.length + l1.length) _ HL.out).mono ?_
 rintro e w1 ⟨v0, rfl, ho, hB⟩
 have HN := Aside0.mk hn2
 have g0 := (hB.cell (p := ⟨b, 0, none⟩) hb).trans h0
 have g1 := (hB.cell (p := ⟨b, 1, none⟩) hb).trans h1
 have HO := Aside0.mk ho
 have HB := Aside0.mk hB
 have H0 := Aside0.mk h0
 have H1 := Aside0.mk h1
 have HLT := Aside0.mk hb
 clear ho hB h0 h1 hb hn2
 go_wp2_with fail
 refine wp_loop_rounds 3 ?_
 rw [rounds_succ]
 go_wp2_with (first | ((with_reducible refine gate_builtin (b := .append) (xs := #[.tmp 31, .tmp 32]) rfl ?_); at_builtin; refine Kd.R_append_rows k54 (w0 := w) w.heap.size rfl (.tmp 31) (.tmp 32) 48 54 (.agg #[.int .i64 0, .string ⟨#[]⟩, .string ⟨#[]⟩]) 40 rfl Tryz.underlying48 info54 rfl (by decide) (by omega) v0 ([] : List S54) l0 A0 l0.length c0 (fun _ => True) (fun _ => False) rfl rfl HO.out (Kd.C_below HR0.out HB.out) (fun _ _ h => h) (fun _ h => h.elim) (fun _ _ => trivial) HB.out HB.out.size ?aL ?_; (case aL => have := HL.out; have := HN.out; simp only [List.length_nil, List.length_append]; omega); intro v1 w2 ho hb2 hg hat; apply StopAt2.out))
 apply StopAt2.mk
 clear g0 g1
 have g0 := (hb2.cell (p := ⟨b, 0, none⟩) HLT.out).trans H0.out
 have g1 := (hb2.cell (p := ⟨b, 1, none⟩) HLT.out).trans H1.out
 have HO2 := Aside0.mk ho
 have HB2 := Aside0.mk hb2
 clear ho hb2 hg hat
 go_wp2_with fail
 rw [rounds_succ]
 go_wp2_with (first | ((with_reducible refine gate_builtin (b := .append) (xs := #[.tmp 31, .tmp 32]) rfl ?_); at_builtin; refine Kd.R_append_rows k54 (w0 := w) w.heap.size rfl (.tmp 31) (.tmp 32) 48 54 (.agg #[.int .i64 0, .string ⟨#[]⟩, .string ⟨#[]⟩]) 40 rfl Tryz.underlying48 info54 rfl (by decide) (by omega) v1 ([] ++ l0) l1 A1 l1.length c1 (fun _ => True) (fun _ => False) rfl rfl HO2.out (Kd.C_below HR1.out HB2.out) (fun _ _ h => h) (fun _ h => h.elim) (fun _ _ => trivial) HB2.out HB2.out.size ?aL ?_; (case aL => have := HL.out; have := HN.out; simp only [List.length_nil, List.length_append]; omega); intro v2 w3 ho hb2 hg hat; apply StopAt2.out))
 apply StopAt2.mk
 have HO3 := Aside0.mk ho
 have HB3 := Aside0.mk hb2
 clear ho hb2 hg hat g0 g1
 go_wp2_with fail
 rw [rounds_succ]
 go_wp2_with fail
 go_ret
 exact ⟨_, rfl, HO3.out, HB3.out⟩
end Go.Proofs.YtnfanpjfhdlddaaGreatDoor.Pr
end
section
namespace Go.Proofs.YtnfanpjfhdlddaaGreatDoor.Pr
open Go.RowKit Go.Proofs.YtnfanpjfhdlddaaGreatDoorW.PrintWords Go.Proofs.YtnfanpjfhdlddaaGreatDoorW.PrintLast Go.Proofs.YtnfanpjfhdlddaaGreatDoorW.PrintMore
attribute [local go_sem] max2_int min2_int max_two min_two max_three min_three max_four min_four strGtr strLeq strGeq
set_option linter.unusedVariables false
set_option linter.unusedSimpArgs false
theorem eqA54 (d : Nat) (w : World) (x0 y0 : Int) (x1 y1 : ByteArray) (x2 y2 : ByteArray) :
  (Op.equalIn (d + 2) 54 (.agg #[.int .i64 x0, .string x1, .string x2]) (.agg #[.int .i64 y0, .string y1, .string y2])).run Tryz.prog w = .ok (x0 == y0 && (x1.toList == y1.toList && (x2.toList == y2.toList))) w := by
 refine eqA_of Tryz.underlying54 (by kernel_rfl) ?_
 refine eqf_cons (by rfl) (by go_simp; rfl) (by go_simp; rfl) (by go_simp) ?_
 refine eqf_cons (by rfl) (by go_simp; rfl) (by go_simp; rfl) (by go_simp) ?_
 exact eqf_last (by rfl) (by go_simp; rfl) (by go_simp; rfl) (by go_simp)
end Go.Proofs.YtnfanpjfhdlddaaGreatDoor.Pr
end
section
set_option linter.unusedVariables false
set_option linter.unusedSimpArgs false
namespace Go.Proofs.YtnfanpjfhdlddaaGreatDoor.Pr
open Go.RowKit Go.Proofs.YtnfanpjfhdlddaaGreatDoorW.PrintWords Go.Proofs.YtnfanpjfhdlddaaGreatDoorW.PrintLast Go.Proofs.YtnfanpjfhdlddaaGreatDoorW.PrintMore
attribute [local go_sem high] eqA54
def cmpMat (x y : S54) : Int := if x.f1.data.toList = y.f1.data.toList then (if x.f0 = y.f0 then Lib.compareBytes x.f2.data.toList y.f2.data.toList else if x.f0 < y.f0 then -1 else 1) else Lib.compareBytes x.f1.data.toList y.f1.data.toList
theorem toList_data54 (a : ByteArray) : a.toList = a.data.toList := by rw [ByteArray.toList_eq]
set_option maxHeartbeats 4000000 in
set_option maxRecDepth 100000 in
theorem attr_order.walk (a0 : Int) (a1 a2 : ByteArray) (b0 : Int) (b1 b2 : ByteArray) (w : World) :
  Calls Tryz.prog 50 #[.agg #[.int .i64 a0, .string a1, .string a2], .agg #[.int .i64 b0, .string b1, .string b2]] w fun e w' => e = .returned (.int .i64 (cmpMat ⟨a0, a1, a2⟩ ⟨b0, b1, b2⟩)) ∧ ∃ q os', w' = Sort.grow (w.drewN q) os' := by
 have hu54 := Tryz.underlying54
 unfold cmpMat
 simp only
 have hcon := fun (a b : ByteArray) W' => Tryz.strings_Compare a b W'
 by_cases h0 : a1.data.toList = b1.data.toList
 ·
  rw [if_pos h0]
  have k0 : (a1.toList == b1.toList) = true := by rw [toList_data54, toList_data54]; exact beq_iff_eq.mpr h0
  have k0' : (a1.toList != b1.toList) = false := by rw [toList_data54, toList_data54]; exact bne_eq_false_iff_eq.mpr h0
  by_cases h1 : a0 = b0
  ·
   rw [if_pos h1]
   have k1 : (a0 == b0) = true := beq_iff_eq.mpr h1
   have k1' : (a0 != b0) = false := bne_eq_false_iff_eq.mpr h1
   by_cases h2 : a2.data.toList = b2.data.toList
   ·
    have k2 : (a2.toList == b2.toList) = true := by rw [toList_data54, toList_data54]; exact beq_iff_eq.mpr h2
    have hr : Lib.compareBytes a2.data.toList b2.data.toList = 0 := by rw [h2]; exact cmp_refl _
    rw [hr]
    clear h0 h1 h2 hr hcon
    go_enter Tryz.func50, Tryz.ntmps50
    go_wp2
    go_ret
    exact ⟨rfl, 0, _, by rw [Sort.alloc_eq_grow, Sort.alloc_eq_grow, Sort.grow_grow]; rfl⟩
   ·
    have k2 : (a2.toList == b2.toList) = false := by rw [toList_data54, toList_data54]; exact beq_eq_false_iff_ne.mpr h2
    have hc := hcon a2 b2
    generalize Lib.compareBytes a2.data.toList b2.data.toList = r at hc ⊢
    clear h0 h1 h2 hcon
    go_enter Tryz.func50, Tryz.ntmps50
    go_wp2_with (go_at_call 34; refine (hc _).mono ?_; rintro e w' ⟨rfl, rfl⟩)
    go_ret
    exact ⟨rfl, 0, _, by rw [Sort.alloc_eq_grow, Sort.alloc_eq_grow, Sort.grow_grow]; rfl⟩
  ·
   rw [if_neg h1]
   have k1 : (a0 == b0) = false := beq_eq_false_iff_ne.mpr h1
   have k1' : (a0 != b0) = true := bne_iff_ne.mpr h1
   by_cases h2 : a0 < b0
   ·
    rw [if_pos h2]
    have k2 : decide (a0 < b0) = true := decide_eq_true h2
    clear h0 h1 h2 hcon
    go_enter Tryz.func50, Tryz.ntmps50
    go_wp2
    go_ret
    exact ⟨rfl, 0, _, by rw [Sort.alloc_eq_grow, Sort.alloc_eq_grow, Sort.grow_grow]; rfl⟩
   ·
    rw [if_neg h2]
    have k2 : decide (a0 < b0) = false := decide_eq_false h2
    clear h0 h1 h2 hcon
    go_enter Tryz.func50, Tryz.ntmps50
    go_wp2
    go_ret
    exact ⟨rfl, 0, _, by rw [Sort.alloc_eq_grow, Sort.alloc_eq_grow, Sort.grow_grow]; rfl⟩
 ·
  rw [if_neg h0]
  have k0 : (a1.toList == b1.toList) = false := by rw [toList_data54, toList_data54]; exact beq_eq_false_iff_ne.mpr h0
  have k0' : (a1.toList != b1.toList) = true := by rw [toList_data54, toList_data54]; exact bne_iff_ne.mpr h0
  have hc := hcon a1 b1
  generalize Lib.compareBytes a1.data.toList b1.data.toList = r at hc ⊢
  clear h0 hcon
  go_enter Tryz.func50, Tryz.ntmps50
  go_wp2_with (go_at_call 34; refine (hc _).mono ?_; rintro e w' ⟨rfl, rfl⟩)
  go_ret
  exact ⟨rfl, 0, _, by rw [Sort.alloc_eq_grow, Sort.alloc_eq_grow, Sort.grow_grow]; rfl⟩
end Go.Proofs.YtnfanpjfhdlddaaGreatDoor.Pr
end
section
namespace Go.Proofs
open Go.Shelf
def Tryz.laySortM_ren : Go.Shelf.Ren := ⟨fun | 6 => 49 | 15 => 54 | 14 => 66 | 28 => 75 | 29 => 76 | 20 => 86 | 21 => 87 | 22 => 88 | 23 => 89 | 24 => 90 | 25 => 91 | 26 => 92 | 27 => 93 | 46 => 113 | 47 => 95 | 48 => 96 | 49 => 114 | 50 => 115 | 57 => 127 | n => n, fun | 22 => 48 | 24 => 54 | 25 => 70 | 3 => 3 | 39 => 74 | 0 => 0 | 53 => 93 | 55 => 95 | 4 => 4 | 46 => 86 | 45 => 85 | 50 => 90 | 5 => 5 | 9 => 9 | 66 => 122 | 70 => 126 | 76 => 151 | 77 => 152 | n => n, fun | n => n⟩
theorem Tryz.laySortM : Go.Proofs.SlLaysF0.n6 Tryz.prog Tryz.laySortM_ren := {
 mixed := by kernel_rfl
 f6 := ⟨Tryz.f49.name, by decide, Tryz.func49.trans (congrArg some (by kernel_rfl))⟩
 f14 := ⟨Tryz.f66.name, by decide, Tryz.func66.trans (congrArg some (by kernel_rfl))⟩
 f15 := Tryz.func54.trans (congrArg some (by kernel_rfl))
 f20 := ⟨Tryz.f86.name, by decide, Tryz.func86.trans (congrArg some (by kernel_rfl))⟩
 f21 := ⟨Tryz.f87.name, by decide, Tryz.func87.trans (congrArg some (by kernel_rfl))⟩
 f22 := ⟨Tryz.f88.name, by decide, Tryz.func88.trans (congrArg some (by kernel_rfl))⟩
 f23 := ⟨Tryz.f89.name, by decide, Tryz.func89.trans (congrArg some (by kernel_rfl))⟩
 f24 := ⟨Tryz.f90.name, by decide, Tryz.func90.trans (congrArg some (by kernel_rfl))⟩
 f25 := ⟨Tryz.f91.name, by decide, Tryz.func91.trans (congrArg some (by kernel_rfl))⟩
 f26 := ⟨Tryz.f92.name, by decide, Tryz.func92.trans (congrArg some (by kernel_rfl))⟩
 f27 := ⟨Tryz.f93.name, by decide, Tryz.func93.trans (congrArg some (by kernel_rfl))⟩
 f28 := Tryz.func75.trans (congrArg some (by kernel_rfl))
 f29 := Tryz.func76.trans (congrArg some (by kernel_rfl))
 f46 := ⟨Tryz.f113.name, by decide, Tryz.func113.trans (congrArg some (by kernel_rfl))⟩
 f47 := Tryz.func95.trans (congrArg some (by kernel_rfl))
 f48 := Tryz.func96.trans (congrArg some (by kernel_rfl))
 f49 := ⟨Tryz.f114.name, by decide, Tryz.func114.trans (congrArg some (by kernel_rfl))⟩
 f50 := ⟨Tryz.f115.name, by decide, Tryz.func115.trans (congrArg some (by kernel_rfl))⟩
 f57 := ⟨Tryz.f127.name, by decide, Tryz.func127.trans (congrArg some (by kernel_rfl))⟩
 t0 := Tryz.underlying0
 a0 := Tryz.isAgg0
 z0 := Tryz.sizeOf0
 v0 := Tryz.zeroValue0
 t3 := Tryz.underlying3
 a3 := Tryz.isAgg3
 z3 := Tryz.sizeOf3
 v3 := Tryz.zeroValue3
 t4 := Tryz.underlying4
 a4 := Tryz.isAgg4
 z4 := Tryz.sizeOf4
 v4 := Tryz.zeroValue4
 t5 := Tryz.underlying5
 a5 := Tryz.isAgg5
 z5 := Tryz.sizeOf5
 v5 := Tryz.zeroValue5
 t9 := Tryz.underlying9
 a9 := Tryz.isAgg9
 z9 := Tryz.sizeOf9
 v9 := Tryz.zeroValue9
 t22 := Tryz.underlying48
 a22 := Tryz.isAgg48
 z22 := Tryz.sizeOf48
 v22 := Tryz.zeroValue48
 t25 := Tryz.underlying70
 a25 := Tryz.isAgg70
 z25 := Tryz.sizeOf70
 v25 := Tryz.zeroValue70
 t39 := Tryz.underlying74
 a39 := Tryz.isAgg74
 z39 := Tryz.sizeOf74
 v39 := Tryz.zeroValue74
 t45 := Tryz.underlying85
 a45 := Tryz.isAgg85
 z45 := Tryz.sizeOf85
 v45 := Tryz.zeroValue85
 t46 := Tryz.underlying86
 a46 := Tryz.isAgg86
 z46 := Tryz.sizeOf86
 v46 := Tryz.zeroValue86
 t50 := Tryz.underlying90
 a50 := Tryz.isAgg90
 z50 := Tryz.sizeOf90
 v50 := Tryz.zeroValue90
 t53 := Tryz.underlying93
 a53 := Tryz.isAgg93
 z53 := Tryz.sizeOf93
 v53 := Tryz.zeroValue93
 t55 := Tryz.underlying95
 a55 := Tryz.isAgg95
 z55 := Tryz.sizeOf95
 v55 := Tryz.zeroValue95
 t66 := Tryz.underlying122
 a66 := Tryz.isAgg122
 z66 := Tryz.sizeOf122
 v66 := Tryz.zeroValue122
 t70 := Tryz.underlying126
 a70 := Tryz.isAgg126
 z70 := Tryz.sizeOf126
 v70 := Tryz.zeroValue126
 t76 := Tryz.underlying151
 a76 := Tryz.isAgg151
 z76 := Tryz.sizeOf151
 v76 := Tryz.zeroValue151
 t77 := Tryz.underlying152
 a77 := Tryz.isAgg152
 z77 := Tryz.sizeOf152
 v77 := Tryz.zeroValue152 }
end Go.Proofs
end
section
set_option linter.unusedVariables false
set_option linter.unusedSimpArgs false
namespace Go.Proofs.YtnfanpjfhdlddaaGreatDoor.Pr
open Go.RowKit Go.Proofs.YtnfanpjfhdlddaaGreatDoorW.PrintWords Go.Proofs.YtnfanpjfhdlddaaGreatDoorW.PrintLast Go.Proofs.YtnfanpjfhdlddaaGreatDoorW.PrintMore
open Go.Sort (flatK HoldsK putRowK ahead grow)
theorem cmpMat_lt (x y : S54) : ltOf cmpMat x y = true ↔ (Op.bytesLess x.f1.data.toList y.f1.data.toList = true ∨ (x.f1.data.toList = y.f1.data.toList ∧ (x.f0 < y.f0 ∨ (x.f0 = y.f0 ∧ Op.bytesLess x.f2.data.toList y.f2.data.toList = true)))) := by
 unfold ltOf cmpMat
 by_cases h0 : x.f1.data.toList = y.f1.data.toList
 ·
  rw [if_pos h0, h0, bytesLess_irrefl]
  by_cases h1 : x.f0 = y.f0
  ·
   rw [if_pos h1, cmp_lt]; simp [h1]
  ·
   rw [if_neg h1]
   by_cases h2 : x.f0 < y.f0
   ·
    rw [if_pos h2]; simp [h2]
   ·
    rw [if_neg h2]; simp [h1, h2]
 ·
  rw [if_neg h0, cmp_lt]; simp [h0]
theorem swoMat : Sort.SWO (ltOf cmpMat) where
 irrefl x := by
  rcases hb : ltOf cmpMat x x with _ | _
  ·
   rfl
  ·
   rcases (cmpMat_lt x x).1 hb with h | ⟨_, h | ⟨_, h⟩⟩
   ·
    rw [bytesLess_irrefl] at h; cases h
   ·
    omega
   ·
    rw [bytesLess_irrefl] at h; cases h
 trans x y z h1 h2 := by
  rw [cmpMat_lt] at *
  rcases h1 with h1 | ⟨e1, h1⟩ <;> rcases h2 with h2 | ⟨e2, h2⟩
  ·
   exact .inl (less_trans _ _ _ h1 h2)
  ·
   rw [← e2]; exact .inl h1
  ·
   rw [e1]; exact .inl h2
  ·
   refine .inr ⟨e1.trans e2, ?_⟩
   rcases h1 with h1 | ⟨f1, h1⟩ <;> rcases h2 with h2 | ⟨f2, h2⟩
   ·
    exact .inl (by omega)
   ·
    exact .inl (by omega)
   ·
    exact .inl (by omega)
   ·
    exact .inr ⟨f1.trans f2, less_trans _ _ _ h1 h2⟩
 ntrans x y z h1 h2 := by
  rcases hb : ltOf cmpMat x z with _ | _
  ·
   rfl
  ·
   exfalso
   have n1 : ¬ _ := fun h => Bool.noConfusion (h1.symm.trans ((cmpMat_lt x y).2 h))
   have n2 : ¬ _ := fun h => Bool.noConfusion (h2.symm.trans ((cmpMat_lt y z).2 h))
   have t1 := bytesLess_total x.f1.data.toList y.f1.data.toList
   have t2 := bytesLess_total y.f1.data.toList z.f1.data.toList
   have u1 := bytesLess_total x.f2.data.toList y.f2.data.toList
   have u2 := bytesLess_total y.f2.data.toList z.f2.data.toList
   have a1 : Op.bytesLess x.f1.data.toList y.f1.data.toList = false := by
    rcases h : Op.bytesLess x.f1.data.toList y.f1.data.toList with _ | _
    ·
     rfl
    ·
     exact (n1 (.inl h)).elim
   have a2 : Op.bytesLess y.f1.data.toList z.f1.data.toList = false := by
    rcases h : Op.bytesLess y.f1.data.toList z.f1.data.toList with _ | _
    ·
     rfl
    ·
     exact (n2 (.inl h)).elim
   have a3 := less_ntrans _ _ _ a1 a2
   rcases (cmpMat_lt x z).1 hb with h | ⟨e, h⟩
   ·
    rw [h] at a3; cases a3
   ·
    have e1 : x.f1.data.toList = y.f1.data.toList := by
     rcases Decidable.em (x.f1.data.toList = y.f1.data.toList) with e1 | e1
     ·
      exact e1
     ·
      rw [a1, beq_eq_false_iff_ne.2 e1] at t1
      rw [e] at t1
      rw [a2] at t2
      have : (y.f1.data.toList == z.f1.data.toList) = false := beq_eq_false_iff_ne.2 (fun e' => e1 (e.trans e'.symm))
      rw [← t1] at a2; cases a2
    have e2 : y.f1.data.toList = z.f1.data.toList := e1.symm.trans e
    have o1 : ¬ x.f0 < y.f0 := fun h => (n1 (.inr ⟨e1, .inl h⟩)).elim
    have o2 : ¬ y.f0 < z.f0 := fun h => (n2 (.inr ⟨e2, .inl h⟩)).elim
    rcases h with h | ⟨eo, h⟩
    ·
     omega
    ·
     have p1 : x.f0 = y.f0 := by omega
     have p2 : y.f0 = z.f0 := by omega
     have b1 : Op.bytesLess x.f2.data.toList y.f2.data.toList = false := by
      rcases h' : Op.bytesLess x.f2.data.toList y.f2.data.toList with _ | _
      ·
       rfl
      ·
       exact (n1 (.inr ⟨e1, .inr ⟨p1, h'⟩⟩)).elim
     have b2 : Op.bytesLess y.f2.data.toList z.f2.data.toList = false := by
      rcases h' : Op.bytesLess y.f2.data.toList z.f2.data.toList with _ | _
      ·
       rfl
      ·
       exact (n2 (.inr ⟨e2, .inr ⟨p2, h'⟩⟩)).elim
     have := less_ntrans _ _ _ b1 b2
     rw [h] at this; cases this
theorem cmpLays50 (blk off size : Nat) (w : World) : CmpLays Tryz.prog 50 #[] enc54 3 cmpMat blk off size w := fun _ _ _ _ x y => attr_order.walk x.f0 x.f1 x.f2 y.f0 y.f1 y.f2 _
def sorted54 (l : List S54) : List S54 := (Sort.pdq (ltOf cmpMat) l.toArray 0 l.toArray.size (Lib.bitLen l.toArray.size) true true).toList
theorem sorted54_perm (l : List S54) : (sorted54 l).Perm l ∧ (sorted54 l).length = l.length ∧ Sort.SortedIn (ltOf cmpMat) 0 l.length (sorted54 l).toArray := by
 have h := Sort.pdq_sorts (ltOf cmpMat) swoMat l.toArray 0 l.toArray.size (Lib.bitLen l.toArray.size) true true (Nat.zero_le _) (Nat.le_refl _) (Or.inl rfl)
 unfold sorted54
 generalize Sort.pdq (ltOf cmpMat) l.toArray 0 l.toArray.size (Lib.bitLen l.toArray.size) true true = X at h
 obtain ⟨⟨h1, _, h3⟩, h4⟩ := h
 have e1 : X.extract 0 l.toArray.size = X := by rw [← h1]; simp
 have e2 : l.toArray.extract 0 l.toArray.size = l.toArray := by simp
 rw [e1, e2] at h3
 exact ⟨by simpa using h3, by simpa using h1, by simpa using h4⟩
theorem sorted54_nil : sorted54 [] = [] := by
 have := (sorted54_perm []).2.1
 exact List.eq_nil_of_length_eq_zero this
set_option maxHeartbeats 1000000 in
theorem slices_SortFunc_M.calls (P0_ : Nat → Prop) (u9000_ : Value) (l0 : List S54) (w0 w : World) (hB : Below w0.heap.size w0 w) (ho0 : Kd.R k54 54 w w0.heap.size P0_ u9000_ l0) (hl : l0.length < 4611686018427387904) :
  Calls Tryz.prog 49 #[u9000_, .func (.func 50) #[] #[]] w fun e w' => e = .returned (.tuple #[]) ∧ Kd.R k54 54 w' w0.heap.size P0_ u9000_ (sorted54 l0) ∧ Below w0.heap.size w0 w' := by
 rcases Nat.eq_zero_or_pos l0.length with h0 | h0
 ·
  have hn := List.eq_nil_of_length_eq_zero h0
  subst hn
  obtain ⟨A, c, rfl⟩ := Kd.R_slice ho0
  have hcon := AnyF.slices_SortFunc_none Tryz.laySortM A c (.func (.func 50) #[] #[]) w
  change Calls Tryz.prog 49 _ _ _ at hcon
  refine hcon.mono fun e w' ⟨he, hw⟩ => ?_
  subst hw
  exact ⟨he, by rw [sorted54_nil]; exact ho0, hB⟩
 ·
  obtain ⟨g, cap, rfl, hbase, hlt, hok, hH⟩ := flat54.holds ho0 h0
  have eg : ∀ args w, (callFunc 50 args).run Tryz.prog w = .ok (.enter 50 args) w := enters_of Tryz.func50 (by kernel_rfl) rfl
  have hcon := AnyQ.slices_SortFunc_eq Tryz.laySortM 3 Tryz.isAgg54 Tryz.sizeOf54 enc54 (fun _ => rfl) (fun x => flat54.one x) cmpMat swoMat 50 #[] g 0 cap l0.toArray w eg (cmpLays50 g 0 _ w) hH hlt (by simpa using hl)
  change Calls Tryz.prog 49 _ _ _ at hcon
  have hsz : l0.toArray.size = l0.length := by simp
  refine Calls.mono (by rw [hsz] at hcon; exact hcon) ?_
  rintro e w' ⟨he, n, os, rfl⟩
  refine ⟨he, ?_, sw_below _ _ w0 w g n _ os hB hbase⟩
  have hR := flat54.sorted (n := n) ho0 (Sort.pdq (ltOf cmpMat) l0.toArray 0 l0.toArray.size (Lib.bitLen l0.toArray.size) true true) (by have := (sorted54_perm l0).2.1; unfold sorted54 at this; simpa using this) os
  rw [hsz] at hR
  unfold sorted54
  rw [hsz]
  exact hR
end Go.Proofs.YtnfanpjfhdlddaaGreatDoor.Pr
end
section
set_option linter.unusedVariables false
set_option linter.unusedSimpArgs false
namespace Go.Proofs.YtnfanpjfhdlddaaGreatDoor.Pr
open Go.RowKit Go.Proofs.YtnfanpjfhdlddaaGreatDoorW.PrintWords Go.Proofs.YtnfanpjfhdlddaaGreatDoorW.PrintLast Go.Proofs.YtnfanpjfhdlddaaGreatDoorW.PrintMore
attribute [local go_sem high] eqA54
def eqM (x y : S54) : Bool := x.f0 == y.f0 && (x.f1.toList == y.f1.toList && (x.f2.toList == y.f2.toList))
def ddFrom : S54 → List S54 → List S54
  | _, [] => []
  | p, x :: l => if eqM x p then ddFrom x l else x :: ddFrom x l
def dd : List S54 → List S54
  | [] => []
  | x :: l => x :: ddFrom x l
theorem drop_at54 (l : List S54) (i : Nat) (h : i < l.length) : l.drop i = rd_T54 l (i : Int) :: l.drop (i + 1) := by
 rw [List.drop_eq_getElem_cons h]; simp [rd_T54, h]
theorem take_at54 (l : List S54) (i : Nat) (h : i < l.length) : l.take (i + 1) = l.take i ++ [rd_T54 l (i : Int)] := by
 rw [List.take_succ_eq_append_getElem h]; simp [rd_T54, h]
section
variable {w : World} {base g n cap : Nat} {ok : Nat → Prop} {xs : List S54}
theorem cells54 (h : Kd.R k54 54 w base ok (.slice (some ⟨g, 0, none⟩) n cap) xs) (i : Nat) (hi : i < n) :
  (w.cell? ⟨g, i * 3, none⟩ = some (.int .i64 (rd_T54 xs (i : Int)).f0) ∧ w.cell? ⟨g, i * 3 + 1, none⟩ = some (.string (rd_T54 xs (i : Int)).f1) ∧ w.cell? ⟨g, i * 3 + 2, none⟩ = some (.string (rd_T54 xs (i : Int)).f2)) ∧
  w.frozen? ⟨g, i * 3, none⟩ = false ∧ w.frozen? ⟨g, i * 3 + 1, none⟩ = false ∧ w.frozen? ⟨g, i * 3 + 2, none⟩ = false := by
 obtain ⟨c, hcl, hM, hcc, hfr⟩ := Kd.R_elem h z54 (i : Int) (by omega) (by omega)
 obtain rfl := k54_openM hM
 exact ⟨⟨hcc 0 _ rfl, hcc 1 _ rfl, hcc 2 _ rfl⟩, hfr 0, hfr 1, hfr 2⟩
theorem put54 (h : Kd.R k54 54 w base ok (.slice (some ⟨g, 0, none⟩) n cap) xs) (i : Nat) (hi : i < n) (x : S54) :
  Kd.R k54 54 (((w.setCell ⟨g, i * 3, none⟩ (.int .i64 x.f0)).setCell ⟨g, i * 3 + 1, none⟩ (.string x.f1)).setCell ⟨g, i * 3 + 2, none⟩ (.string x.f2)) base ok (.slice (some ⟨g, 0, none⟩) n cap) (xs.set i x) ∧
  w.grownBy (((w.setCell ⟨g, i * 3, none⟩ (.int .i64 x.f0)).setCell ⟨g, i * 3 + 1, none⟩ (.string x.f1)).setCell ⟨g, i * 3 + 2, none⟩ (.string x.f2)) (some g) := by
 obtain ⟨c, hcl, hM, hcc, hfr⟩ := Kd.R_elem h z54 (i : Int) (by omega) (by omega)
 exact Kd.R_seg h (i : Int) (by omega) (by omega) (seg := [.int .i64 x.f0, .string x.f1, .string x.f2]) (j := 0) hcl hcc (show 3 ≤ 3 from by decide) (x' := x) (okp := fun k => ok k ∧ k ≠ g)
  (by obtain rfl := k54_openM hM; exact k54_mkM _ _ _ x) (fun _ hk => hk)
theorem clear54 (h : Kd.R k54 54 w base ok (.slice (some ⟨g, 0, none⟩) n cap) xs) (k c : Nat) (hk : k < n) :
  ∃ w', (∀ ty, (Builtin.clear_ #[48] ty #[.slice (some ⟨g, k * 3, none⟩) (n - k) c]).run Tryz.prog w = .ok (.tuple #[]) w') ∧ Kd.R k54 54 w' base ok (.slice (some ⟨g, 0, none⟩) k cap) (xs.take k) ∧ w.grownBy w' (some g) := by
 have h' := Kd.R_take h (m := k) (by have := (Kd.R_reads' h).1; omega)
 obtain ⟨hok, ho⟩ := flat54.R h
 obtain ⟨hok', ho'⟩ := flat54.R h'
 rcases ho.2 with ⟨hv, _⟩ | ⟨g1, cap1, cur, hv, hb, hh, hnc, hcm, hcs, ht⟩
 ·
  cases hv
 injection hv with h1 h2 h3
 injection h1 with h1
 injection h1 with h1
 subst h1; subst h2; subst h3
 have hd : k54.sz = 3 := rfl
 rw [hd] at hcs
 have hz : ∀ w, (zeroValue 54).run Tryz.prog w = .ok (.agg #[.int .i64 0, .string ⟨#[]⟩, .string ⟨#[]⟩]) w := fun w => by kernel_rfl
 have hce : (Value.agg #[.int .i64 0, .string ⟨#[]⟩, .string ⟨#[]⟩]).cells = #[.int .i64 0, .string ⟨#[]⟩, .string ⟨#[]⟩] := by kernel_rfl
 have hlen : (Builtin.zeroCells #[.int .i64 0, .string ⟨#[]⟩, .string ⟨#[]⟩] (xs.length - k)).toList.length = (xs.length - k) * 3 := by simp [Builtin.zeroCells]
 have hone : ∀ v ∈ (Builtin.zeroCells #[.int .i64 0, .string ⟨#[]⟩, .string ⟨#[]⟩] (xs.length - k)).toList, v.oneCell' = true := by
  intro v hv
  simp only [Builtin.zeroCells, Array.toList_map, List.mem_map] at hv
  obtain ⟨i, _, rfl⟩ := hv
  have hi : i % 3 < 3 := Nat.mod_lt _ (by decide)
  have : i % 3 = 0 ∨ i % 3 = 1 ∨ i % 3 = 2 := by omega
  rcases this with e | e | e <;> simp [e, Value.oneCell']
 generalize hZ : (Builtin.zeroCells #[.int .i64 0, .string ⟨#[]⟩, .string ⟨#[]⟩] (xs.length - k)).toList = Z at hlen hone
 have hfit : k * 3 + Z.length ≤ cur.size := by rw [hlen, hcs, ← Nat.add_mul]; exact Nat.mul_le_mul_right 3 (by omega)
 have hst := run_storeCells_cells (P := Tryz.prog) g (k * 3) Z 0 w (fun j hj => by rw [cell_of_row w g _ cur 54 (0, 0) hh]; simp; omega) (fun j _ => blk_frozen hh _) hone
 simp only [Nat.add_zero] at hst
 obtain ⟨m, hm⟩ : ∃ m, xs.length - k = m + 1 := ⟨xs.length - k - 1, by omega⟩
 refine ⟨w.setCells g (k * 3) Z, fun ty => ?_, ?_, ?_⟩
 ·
  rw [hm] at hZ ⊢
  simp [Builtin.clear_, run_underlying Tryz.underlying48, hz, hce, hZ, hst]
 ·
  obtain ⟨cur', h3, h4, h5⟩ := setCells_row Z (k * 3) w cur hh hfit
  refine flat54.R' hok' ⟨ho'.1, .inr ⟨g, cap, cur', by simp; omega, hb, h3, by simp; omega, hcm, by rw [h4, hcs, hd], ?_⟩⟩
  rcases ho'.2 with ⟨hv, _⟩ | ⟨g1, cap1, cur1, hv, _, hh1, _, _, _, ht1⟩
  ·
   cases hv
  injection hv with h1 h2 h3
  injection h1 with h1
  injection h1 with h1
  subst h1
  rw [hh] at hh1
  injection hh1 with hh1
  injection hh1 with hh1
  subst hh1
  rw [← ht1, hd]
  have hk' : (xs.take k).length = k := by simp; omega
  rw [hk', h5, List.append_assoc, List.take_append_of_le_length (by simp; omega), List.take_take, Nat.min_self]
 ·
  obtain ⟨s1, s2, s3, s4⟩ := setCells_same g Z (k * 3) w
  exact ⟨s1, s2, s3, by rw [s4]; exact Nat.le_refl _, fun q _ hq => setCells_far Z _ q (fun he => hq (by rw [he]))⟩
end
end Go.Proofs.YtnfanpjfhdlddaaGreatDoor.Pr
end
section
set_option linter.unusedVariables false
set_option linter.unusedSimpArgs false
namespace Go.Proofs.YtnfanpjfhdlddaaGreatDoor.Pr
open Go.RowKit Go.Proofs.YtnfanpjfhdlddaaGreatDoorW.PrintWords Go.Proofs.YtnfanpjfhdlddaaGreatDoorW.PrintLast Go.Proofs.YtnfanpjfhdlddaaGreatDoorW.PrintMore
theorem dd_short : ∀ l : List S54, l.length < 2 → dd l = l
 | [], _ => rfl
 | [x], _ => rfl
 | _ :: _ :: l, h => absurd h (by simp)
theorem rd_eq54 {d l : List S54} {i : Nat} (h : d[i]? = l[i]?) : rd_T54 d (i : Int) = rd_T54 l (i : Int) := by
 simp [rd_T54, List.getD_eq_getElem?_getD, h]
theorem drop_step54 {d l : List S54} {m kk : Nat} (u : S54) (h : d.drop m = l.drop m) (hk : kk ≤ m) : (d.set kk u).drop (m + 1) = l.drop (m + 1) := by
 rw [List.drop_set_of_lt (by omega)]
 have := congrArg (List.drop 1) h
 simp only [List.drop_drop] at this
 exact this
theorem below_own {w0 w w' : World} {g : Nat} (h : Below w0.heap.size w0 w) (hg : w.grownBy w' (some g)) (hb : w0.heap.size ≤ g) : Below w0.heap.size w0 w' :=
 h.grown hg h.size (fun k hk => by cases hk; exact hb)
theorem dd_start (l : List S54) (h : 1 ≤ l.length) : l.take 1 ++ ddFrom (rd_T54 l ((1 - 1 : Nat) : Int)) (l.drop 1) = dd l := by
 cases l with
 | nil => simp at h
 | cons x l => rfl
theorem dd_next (l : List S54) (k : Nat) (hk : k < l.length) (m : List S54) (p : S54) : m ++ ddFrom p (l.drop k) = if eqM (rd_T54 l (k : Int)) p then m ++ ddFrom (rd_T54 l (k : Int)) (l.drop (k + 1)) else (m ++ [rd_T54 l (k : Int)]) ++ ddFrom (rd_T54 l (k : Int)) (l.drop (k + 1)) := by
 rw [drop_at54 l k hk, ddFrom]
 split <;> simp
theorem eqM_run {x y : S54} {b : Bool} (h : eqM x y = b) : ∀ (d : Nat) (W : World), (Op.equalIn (d + 2) 54 (.agg #[.int .i64 x.f0, .string x.f1, .string x.f2]) (.agg #[.int .i64 y.f0, .string y.f1, .string y.f2])).run Tryz.prog W = .ok b W :=
 fun d W => by rw [eqA54]; rw [← h]; rfl
set_option maxHeartbeats 4000000 in
set_option maxRecDepth 100000 in
theorem slices_Compact_M.calls (P0_ : Nat → Prop) (u9000_ : Value) (l0 : List S54) (w0 w : World) (hB : Below w0.heap.size w0 w) (ho0 : Kd.R k54 54 w w0.heap.size P0_ u9000_ l0) (hl : l0.length < 4611686018427387904) :
  Calls Tryz.prog 51 #[u9000_] w fun e w' => ∃ v0_ : Value, e = .returned v0_ ∧ Kd.R k54 54 w' w0.heap.size P0_ v0_ (dd l0) ∧ Below w0.heap.size w0 w' := by
 have hu54 := Tryz.underlying54
 have hu48 := Tryz.underlying48
 by_cases h2 : l0.length < 2
 ·
  obtain ⟨A, c, rfl⟩ := Kd.R_slice ho0
  have HO := Aside0.mk ho0
  have HB := Aside0.mk hB
  clear ho0 hB
  go_enter Tryz.func51, Tryz.ntmps51
  go_wp2
  go_ret
  exact ⟨_, rfl, by rw [dd_short l0 h2]; exact HO.out, HB.out⟩
 ·
  obtain ⟨g, cap, rfl, hbg, hgl, _⟩ := Kd.R_form ho0 (by omega)
  have hcap := (Kd.R_reads' ho0).2.1
  have HO := Aside0.mk ho0
  have HB := Aside0.mk hB
  have HG := Aside0.mk hbg
  clear ho0 hB hbg hgl
  go_enter Tryz.func51, Tryz.ntmps51
  go_wp2
  go_loopg [3] l0.length (fun gk s3 wr => ∃ k q : Nat, 1 ≤ k ∧ k ≤ l0.length ∧ l0.length - k ≤ gk ∧ s3 = .int .i64 k ∧ wr = w.drewN q ∧ Aside0 (l0.take k ++ ddFrom (rd_T54 l0 ((k - 1 : Nat) : Int)) (l0.drop k) = dd l0))
  case atStart => exact ⟨1, 0, Nat.le_refl _, by omega, by omega, rfl, rfl, ⟨dd_start l0 (by omega)⟩⟩
  case round =>
   obtain ⟨k, q, hk1, hk, hg, rfl, rfl, HA⟩ := hrel
   by_cases hlt : k < l0.length
   ·
    obtain ⟨⟨a0, a1, a2⟩, f0, f1, f2⟩ := cells54 HO.out k hlt
    obtain ⟨⟨b0, b1, b2⟩, -, -, -⟩ := cells54 HO.out (k - 1) (by omega)
    have HE := HA.out
    rw [dd_next l0 k hlt] at HE
    have HX := Aside0.mk (show rd_T54 l0 ((k + 1 - 1 : Nat) : Int) = rd_T54 l0 (k : Int) from rfl)
    generalize hx : rd_T54 l0 (k : Int) = x at a0 a1 a2 HE HX
    generalize hy : rd_T54 l0 ((k - 1 : Nat) : Int) = y at b0 b1 b2 HE
    have HX0 := Aside0.mk hx
    clear hx hy HA f0 f1 f2
    cases hdup : eqM x y with
    | true =>
     have he := eqM_run hdup
     rw [hdup, if_pos rfl] at HE
     have HE' := Aside0.mk HE
     clear hdup HE
     go_wp2_with fail
     go_quiet (fail)
     go_wp2
     have HS := Aside0.mk (And.intro (Kd.R_drewN HO.out (q + nq)) (pw_below_drewN HB.out (q + nq)))
     clear a0 a1 a2 b0 b1 b2 he
     go_loopg [3, 5] l0.length (fun gk s3 s5 wr => ∃ (kk k2 : Nat) (d : List S54), s3 = .int .i64 kk ∧ s5 = .int .i64 k2 ∧ 1 ≤ k2 ∧ k + k2 ≤ l0.length ∧ l0.length - (k + k2) ≤ gk ∧ k ≤ kk ∧ kk + 1 ≤ k + k2 ∧ Aside0 (Kd.R k54 54 wr w0.heap.size P0_ (.slice (some ⟨g, 0, none⟩) l0.length cap) d) ∧ Aside0 (Below w0.heap.size w0 wr) ∧ Aside0 (d.length = l0.length ∧ d.drop (k + k2 - 1) = l0.drop (k + k2 - 1) ∧ d.take kk ++ ddFrom (rd_T54 l0 ((k + k2 - 1 : Nat) : Int)) (l0.drop (k + k2)) = dd l0))
     case atStart => exact ⟨k, 1, l0, rfl, rfl, Nat.le_refl _, by omega, by omega, Nat.le_refl _, Nat.le_refl _, ⟨HS.out.1⟩, ⟨HS.out.2⟩, ⟨rfl, rfl, by rw [HX.out]; exact HE'.out⟩⟩
     case round =>
      obtain ⟨kk, k2, d, rfl, rfl, h1, hle, hg2, hkk, hkk2, HR, HBB, HD⟩ := hrel
      by_cases hlt2 : k + k2 < l0.length
      ·
       obtain ⟨⟨a0, a1, a2⟩, -, -, -⟩ := cells54 HR.out (k + k2) hlt2
       obtain ⟨⟨b0, b1, b2⟩, -, -, -⟩ := cells54 HR.out (k + k2 - 1) (by omega)
       obtain ⟨⟨c0, c1, c2⟩, f0, f1, f2⟩ := cells54 HR.out kk (by omega)
       have e1 : rd_T54 d ((k + k2 : Nat) : Int) = rd_T54 l0 ((k + k2 : Nat) : Int) := by
        have := congrArg (fun m => m[1]?) HD.out.2.1
        simp only [List.getElem?_drop] at this
        rw [show k + k2 - 1 + 1 = k + k2 by omega] at this
        exact rd_eq54 this
       have e2 : rd_T54 d ((k + k2 - 1 : Nat) : Int) = rd_T54 l0 ((k + k2 - 1 : Nat) : Int) := by
        have := congrArg (fun m => m[0]?) HD.out.2.1
        simp only [List.getElem?_drop, Nat.add_zero] at this
        exact rd_eq54 this
       rw [e1, show (k + k2) * 3 = k * 3 + k2 * 3 by omega] at a0 a1 a2
       rw [e2, show (k + k2 - 1) * 3 = k * 3 + (k2 - 1) * 3 by omega] at b0 b1 b2
       have HE := HD.out.2.2
       rw [dd_next l0 (k + k2) hlt2] at HE
       clear e1 e2
       generalize hx : rd_T54 l0 ((k + k2 : Nat) : Int) = u at a0 a1 a2 HE
       generalize hy : rd_T54 l0 ((k + k2 - 1 : Nat) : Int) = v at b0 b1 b2 HE
       have HX2 := Aside0.mk hx
       clear hx hy
       cases hdup : eqM u v with
       | true =>
        have he := eqM_run hdup
        rw [hdup, if_pos rfl] at HE
        have HE2 := Aside0.mk HE
        clear hdup HE
        go_wp2_with fail
        go_quiet (fail)
        go_wp2
        go_roundg (l0.length - (k + (k2 + 1)))
        case measure => omega
        case rel => exact ⟨kk, k2 + 1, d, rfl, by go_num, by omega, by omega, Nat.le_refl _, by omega, by omega, ⟨Kd.R_drewN HR.out _⟩, ⟨pw_below_drewN HBB.out _⟩, ⟨HD.out.1, (by have := congrArg (List.drop 1) HD.out.2.1; simp only [List.drop_drop] at this; rw [show k + k2 - 1 + 1 = k + (k2 + 1) - 1 by omega] at this; exact this), (by have := HE2.out; rw [← HX2.out] at this; exact this)⟩⟩
       | false =>
        have he := eqM_run hdup
        rw [hdup, if_neg (by simp)] at HE
        have HE2 := Aside0.mk HE
        clear hdup HE
        go_wp2_with fail
        go_quiet (fail)
        have HP := Aside0.mk (put54 (Kd.R_drewN HR.out nq) kk (by omega) u)
        go_wp2
        go_roundg (l0.length - (k + (k2 + 1)))
        case measure => omega
        case rel => exact ⟨kk + 1, k2 + 1, d.set kk u, by go_num, by go_num, by omega, by omega, Nat.le_refl _, by omega, by omega, ⟨HP.out.1⟩, ⟨below_own (pw_below_drewN HBB.out nq) HP.out.2 HG.out⟩, ⟨by rw [List.length_set]; exact HD.out.1, (by rw [show k + (k2 + 1) - 1 = k + k2 - 1 + 1 by omega]; exact drop_step54 u HD.out.2.1 (by omega)), (by have := HE2.out; rw [← HX2.out] at this ⊢; rw [List.take_succ_eq_append_getElem (by rw [List.length_set, HD.out.1]; omega), List.take_set_of_le (Nat.le_refl _), List.getElem_set_self]; exact this)⟩⟩
      ·
       have hend : k + k2 = l0.length := by omega
       obtain ⟨wz, hz, hRz, hgz⟩ := clear54 HR.out kk (cap - kk) (by omega)
       have HZ := Aside0.mk (And.intro hRz hgz)
       clear hRz hgz
       have HDD := Aside0.mk (show d.take kk = dd l0 from by have := HD.out.2.2; rw [hend, List.drop_of_length_le (Nat.le_refl _), ddFrom, List.append_nil] at this; exact this)
       go_wp2
       go_ret
       exact ⟨_, rfl, by rw [← HDD.out]; exact HZ.out.1, below_own HBB.out HZ.out.2 HG.out⟩
    | false =>
     have he := eqM_run hdup
     rw [hdup, if_neg (by simp)] at HE
     have HE' := Aside0.mk HE
     clear hdup HE
     go_wp2_with fail
     go_quiet (fail)
     go_wp2
     go_roundg (l0.length - (k + 1))
     case measure => omega
     case rel => exact ⟨k + 1, _, by omega, by omega, Nat.le_refl _, by go_num, rfl, ⟨by rw [take_at54 l0 k hlt, HX.out, HX0.out]; exact HE'.out⟩⟩
   ·
    have : k = l0.length := by omega
    subst this
    go_wp2
    go_ret
    exact ⟨_, rfl, by have := HA.out; simp [ddFrom] at this; rw [← this]; exact Kd.R_drewN HO.out _, pw_below_drewN HB.out _⟩
end Go.Proofs.YtnfanpjfhdlddaaGreatDoor.Pr
end
section
set_option linter.unusedVariables false
set_option linter.unusedSimpArgs false
namespace Go.Proofs.YtnfanpjfhdlddaaGreatDoor.Pr
open Go.RowKit Go.Proofs.YtnfanpjfhdlddaaGreatDoorW.PrintWords Go.Proofs.YtnfanpjfhdlddaaGreatDoorW.PrintLast Go.Proofs.YtnfanpjfhdlddaaGreatDoorW.PrintMore
def Seen54 (w : World) (v : Value) (xs : List S54) : Prop := ∃ A c, v = .slice A xs.length c ∧ xs.length ≤ c ∧ Kd.C k54 w A xs.length xs
theorem Seen54.slice {w : World} {v : Value} {xs : List S54} (h : Seen54 w v xs) : ∃ A c, v = .slice A xs.length c := by
 obtain ⟨A, c, h1, _⟩ := h
 exact ⟨A, c, h1⟩
theorem Seen54.reads {w : World} {A : Option Addr} {n c : Nat} {xs : List S54} (h : Seen54 w (.slice A n c) xs) : n = xs.length ∧ n ≤ c ∧ Kd.C k54 w A xs.length xs := by
 obtain ⟨A1, c1, h1, h2, h3⟩ := h
 injection h1 with e1 e2 e3
 subst e1; subst e2; subst e3
 exact ⟨rfl, h2, h3⟩
theorem Seen54.below {w w1 : World} {v : Value} {xs : List S54} (h : Seen54 w v xs) (hb : Below w.heap.size w w1) : Seen54 w1 v xs := by
 obtain ⟨A1, c1, h1, h2, h3⟩ := h
 exact ⟨A1, c1, h1, h2, Kd.C_below h3 hb⟩
theorem Seen54.alloc {w : World} {v : Value} {xs : List S54} (h : Seen54 w v xs) (o : Obj) : Seen54 (w.alloc o) v xs := h.below (below_alloc (Below.refl _ _) o)
theorem Seen54.drewN {w : World} {v : Value} {xs : List S54} (h : Seen54 w v xs) (n : Nat) : Seen54 (w.drewN n) v xs := h.below (pw_below_drewN (Below.refl _ _) n)
theorem Seen54.drew {w : World} {v : Value} {xs : List S54} (h : Seen54 w v xs) : Seen54 w.drew v xs := h.drewN 1
set_option maxHeartbeats 1000000 in
set_option maxRecDepth 100000 in
theorem slices_Clip_M.calls (A : Option Addr) (n c : Nat) (w : World) (hn : n ≤ c) (hc : c ≤ maxLen) (hA : A = none → n = 0 ∧ c = 0) :
  Calls Tryz.prog 52 #[.slice A n c] w fun e w' => e = .returned (.slice A n n) ∧ w' = w := by
 have hu48 := Tryz.underlying48
 unfold maxLen at hc
 cases A with
 | none =>
  obtain ⟨rfl, rfl⟩ := hA rfl
  go_enter Tryz.func52, Tryz.ntmps52
  go_wp2
  go_ret
  exact ⟨rfl, rfl⟩
 | some a =>
  clear hA
  go_enter Tryz.func52, Tryz.ntmps52
  go_wp2
  go_ret
  exact ⟨rfl, rfl⟩
theorem cell_new9 (w : World) (vs : Array Value) (t : TypeId) (j : Nat) (v : Value) (h : vs[j]? = some v) : (w.alloc (.cells vs t)).cell? ⟨w.heap.size, j, none⟩ = some v := by
 rw [World.cell?_alloc_at vs t w.heap.size j rfl]; exact h
theorem R_cap54 {w : World} {base : Nat} {ok : Nat → Prop} {A : Option Addr} {n c : Nat} {xs : List S54} (h : Kd.R k54 54 w base ok (.slice A n c) xs) : c ≤ maxLen ∧ (A = none → n = 0 ∧ c = 0) := by
 obtain ⟨_, ho⟩ := flat54.R h
 rcases ho.2 with ⟨hv, _⟩ | ⟨g, cap, cur, hv, _, _, _, hcm, _⟩
 ·
  injection hv with h1 h2 h3
  subst h1; subst h2; subst h3
  exact ⟨Nat.zero_le _, fun _ => ⟨rfl, rfl⟩⟩
 ·
  injection hv with h1 h2 h3
  subst h1; subst h3
  exact ⟨hcm, fun e => by cases e⟩
def attr_Both.f (k : Nat) (l0 l1 : List S54) : Option (List S54 × Int) :=
  if (l0.length + l1.length) * 40 ≤ 140737488355328 then (attr_wrong.f k (l0 ++ l1)).bind fun why => if ((dd (sorted54 (l0 ++ l1))).length : Int) > 8 then some ([], 7) else if why = 0 then some (dd (sorted54 (l0 ++ l1)), 0) else some ([], why) else none
theorem dd_len : ∀ l : List S54, (dd l).length ≤ l.length := by
 have h : ∀ (l : List S54) (p : S54), (ddFrom p l).length ≤ l.length := by
  intro l
  induction l with
  | nil => intro p; simp [ddFrom]
  | cons x l ih =>
   intro p
   rw [ddFrom]
   split
   ·
    have := ih x; simp; omega
   ·
    have := ih x; simp; omega
 intro l
 cases l with
 | nil => simp [dd]
 | cons x l => rw [dd]; have := h l x; simp; omega
set_option maxHeartbeats 4000000 in
set_option maxRecDepth 100000 in
theorem attr_Both.calls (k : Nat) (A0 : Option Addr) (c0 : Nat) (l0 : List S54) (A1 : Option Addr) (c1 : Nat) (l1 : List S54) (r1 : List S54) (r2 : Int) (w : World) (hr0 : Kd.C k54 w A0 l0.length l0) (hc0 : l0.length ≤ c0) (hr1 : Kd.C k54 w A1 l1.length l1) (hc1 : l1.length ≤ c1) (h : attr_Both.f k l0 l1 = some (r1, r2)) (he_ : EnvW w := by repeat (first | with_reducible assumption | with_reducible exact env_of (by with_reducible assumption) (by with_reducible assumption) | with_reducible exact env_out (by with_reducible assumption) | with_reducible apply env_alloc | with_reducible apply env_drewN | with_reducible apply env_drew | with_reducible refine env_set ?_ (by with_reducible assumption) (by with_reducible assumption))) :
  Calls Tryz.prog 30 #[.slice A0 l0.length c0, .slice A1 l1.length c1] w fun e w' => ∃ v0_ : Value, e = .returned (.tuple #[v0_, .int .i64 r2]) ∧ Seen54 w' v0_ r1 ∧ Below w.heap.size w w' := by
 have hu48 := Tryz.underlying48
 have hu80 := Tryz.underlying80
 unfold attr_Both.f at h
 by_cases hn : (l0.length + l1.length) * 40 ≤ 140737488355328
 ·
  rw [if_pos hn] at h
  obtain ⟨why, hwhy, h⟩ := Option.bind_eq_some_iff.mp h
  have hsl := (sorted54_perm (l0 ++ l1)).2.1
  have hdl := dd_len (sorted54 (l0 ++ l1))
  rw [hsl] at hdl
  have HN := Aside0.mk hn
  have HR0 := Aside0.mk hr0
  have HR1 := Aside0.mk hr1
  have HE := Aside0.mk he_
  have HW := Aside0.mk hwhy
  have H := Aside0.mk h
  have HSL := Aside0.mk hsl
  have HDL := Aside0.mk hdl
  clear hn hr0 hr1 he_ hwhy h hsl hdl
  go_enter Tryz.func30, Tryz.ntmps30
  go_wp2_with fail
  have hg0 : (w.alloc (.cells #[.slice A0 l0.length c0, .slice A1 l1.length c1] 48)).cell? ⟨w.heap.size, 0, none⟩ = some (.slice A0 l0.length c0) := cell_new9 _ _ _ _ _ rfl
  have hg1 : (w.alloc (.cells #[.slice A0 l0.length c0, .slice A1 l1.length c1] 48)).cell? ⟨w.heap.size, 1, none⟩ = some (.slice A1 l1.length c1) := cell_new9 _ _ _ _ _ rfl
  have hg2 : w.heap.size < (w.alloc (.cells #[.slice A0 l0.length c0, .slice A1 l1.length c1] 48)).heap.size := by simp
  have hC0 := Kd.C_alloc HR0.out (.cells #[.slice A0 l0.length c0, .slice A1 l1.length c1] 48)
  have hC1 := Kd.C_alloc HR1.out (.cells #[.slice A0 l0.length c0, .slice A1 l1.length c1] 48)
  have hbw : Below w.heap.size w (w.alloc (.cells #[.slice A0 l0.length c0, .slice A1 l1.length c1] 48)) := (Below.refl _ _).alloc (Nat.le_refl _) _
  generalize w.alloc (.cells #[.slice A0 l0.length c0, .slice A1 l1.length c1] 48) = W at hg0 hg1 hg2 hC0 hC1 hbw ⊢
  refine (slices_Concat_M.calls w.heap.size A0 A1 c0 c1 l0 l1 W hg0 hg1 hg2 hC0 hC1 HN.out).mono ?_
  clear hg0 hg1 hC0 hC1
  rintro e w1 ⟨v0, rfl, ho, hb⟩
  have HB := Aside0.mk (show Below w.heap.size w w1 from hbw.trans (hb.mono (by omega)))
  have HO := Aside0.mk (Kd.R_lower (base' := w.heap.size) ho (by omega))
  clear ho hb hbw hg2
  have hall : (l0 ++ l1).length ≤ 3518437208883 := by have := HN.out; simp only [List.length_append]; omega
  clear HN
  generalize l0 ++ l1 = all at HO HW H HSL HDL hall
  have HA := Aside0.mk hall
  clear hall
  obtain ⟨B, c, e1⟩ := Kd.R_slice HO.out
  subst e1
  go_wp2_with fail
  refine (attr_wrong.calls k B c all why _ (Kd.R_reads' HO.out).2.2 (Kd.R_reads' HO.out).2.1 HW.out (env_below HE.out HB.out)).mono ?_
  rintro e w2 ⟨rfl, hb⟩
  have HO2 := Aside0.mk (Kd.R_below HO.out hb)
  have HB2 := Aside0.mk (below_step HB.out hb)
  clear hb HO HB
  go_wp2_with fail
  refine (slices_SortFunc_M.calls (fun _ => True) _ all w _ HB2.out HO2.out (by have := HA.out; omega)).mono ?_
  rintro e w3 ⟨rfl, ho, hb⟩
  have HO3 := Aside0.mk ho
  have HB3 := Aside0.mk hb
  clear ho hb HO2 HB2
  go_wp2_with fail
  refine (slices_Compact_M.calls (fun _ => True) _ (sorted54 all) w _ HB3.out HO3.out (by have := HA.out; have := HSL.out; omega)).mono ?_
  rintro e w4 ⟨v4, rfl, ho, hb⟩
  have HO4 := Aside0.mk ho
  have HB4 := Aside0.mk hb
  clear ho hb HO3 HB3
  generalize dd (sorted54 all) = m at HO4 H HDL
  obtain ⟨C, c4, e4⟩ := Kd.R_slice HO4.out
  subst e4
  have hdl := HDL.out
  have hnn := HA.out
  have hml : m.length ≤ 3518437208883 := by omega
  have h := H.out
  clear H hdl hnn HA HDL HSL
  by_cases h8 : (m.length : Int) > 8
  ·
   rw [if_pos h8] at h
   simp only [Option.some.injEq, Prod.mk.injEq] at h
   obtain ⟨rfl, rfl⟩ := h
   have d8 : decide (8 < (m.length : Int)) = true := decide_eq_true h8
   have d8' : decide (8 < m.length) = true := decide_eq_true (by omega)
   clear h8
   go_wp2_with fail
   go_ret2
   exact ⟨_, rfl, ⟨none, 0, rfl, Nat.le_refl _, (Kd.R_reads' (Kd.R_nil k54 54 w4 w.heap.size (fun _ => True))).2.2⟩, HB4.out⟩
  ·
   rw [if_neg h8] at h
   have d8 : decide (8 < (m.length : Int)) = false := decide_eq_false h8
   have d8' : decide (8 < m.length) = false := decide_eq_false (by omega)
   clear h8
   by_cases hw : why = 0
   ·
    rw [if_pos hw] at h
    simp only [Option.some.injEq, Prod.mk.injEq] at h
    obtain ⟨rfl, rfl⟩ := h
    have dw : (why != 0) = false := bne_eq_false_iff_eq.mpr hw
    clear hw
    go_wp2_with fail
    refine (slices_Clip_M.calls C m.length c4 _ (Kd.R_reads' HO4.out).2.1 (R_cap54 HO4.out).1 (R_cap54 HO4.out).2).mono ?_
    rintro e w' ⟨rfl, rfl⟩
    go_wp2_with fail
    go_ret2
    exact ⟨_, rfl, ⟨C, m.length, rfl, Nat.le_refl _, (Kd.R_reads' HO4.out).2.2⟩, HB4.out⟩
   ·
    rw [if_neg hw] at h
    simp only [Option.some.injEq, Prod.mk.injEq] at h
    obtain ⟨rfl, rfl⟩ := h
    have dw : (why != 0) = true := bne_iff_ne.mpr hw
    clear hw
    go_wp2_with fail
    go_ret2
    exact ⟨_, rfl, ⟨none, 0, rfl, Nat.le_refl _, (Kd.R_reads' (Kd.R_nil k54 54 w4 w.heap.size (fun _ => True))).2.2⟩, HB4.out⟩
 ·
  rw [if_neg hn] at h
  cases h
end Go.Proofs.YtnfanpjfhdlddaaGreatDoor.Pr
end
