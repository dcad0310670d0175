import Derived.Test.YtnfanpjfhdlddaaGreatDoorQPicks13
import Derived.Test.YtnfanpjfhdlddaaGreatDoorQPicks5
import Derived.Test.YtnfanpjfhdlddaaGreatDoorQPicks8
import Derived.Test.YtnfanpjfhdlddaaGreatDoorQPicks3
import Derived.RangeFuncNested
import Derived.RangeFuncBound
import Derived.RangeFuncCalls
import Derived.RangeFuncLeaves
import Derived.RangeFuncBox
import Derived.Shelf.Abstract
import Derived.WalkKit
import Derived.OwnWalkIn
import Derived.TacticsInMore
import Derived.LoopNIn
import Derived.LoopIn
import Derived.Maps.AppendAt
import Derived.Test.YtnfanpjfhdlddaaGreatDoorProg
import Derived.Tactics
import Derived.Tactics2
import Derived.Defers
import Derived.Laws.Pointers
import Derived.Laws.LoneSync
import Derived.RegionTactic
import Derived.RegionCalls
import Derived.ChangeAlike
import Derived.Lib.Hide
import Derived.Test.YtnfanpjfhdlddaaGreatDoorQPicks1
import Derived.Laws.NewBlocks
import Derived.Below
import Derived.LoopN
import Derived.Deep.MidRow
import Derived.Deep.WholeRow
import Derived.WalkSpells
import Derived.Laws.IdiomStrings
import Derived.Test.YtnfanpjfhdlddaaGreatDoorQPicks11
section
set_option linter.unusedVariables false
set_option linter.unusedSimpArgs false
namespace Go.Proofs.YtnfanpjfhdlddaaGreatDoor.Pr
open Go.RowKit Go.Proofs.YtnfanpjfhdlddaaGreatDoorW.PrintWords Go.Proofs.YtnfanpjfhdlddaaGreatDoorW.PrintLast Go.Proofs.YtnfanpjfhdlddaaGreatDoorW.PrintMore
def attr_read.f (k : Nat) (a0 : ByteArray) (a1 : Bool) : Option (List S54 × Int × Int) :=
  if (a0.size : Int) > 65536 then some ([], 4, 0) else (attr_reader_list.f k a0 0 false a1).bind fun x => if x.2.2.2 = true then some ([], 3, x.2.2.1) else some (x.1, 0, 0)
theorem attr_read.mono : ∀ a0 a1 k, LeO (attr_read.f k a0 a1) (attr_read.f (k + 1) a0 a1) := by
 intro a0 a1 k
 unfold attr_read.f
 repeat' first
   | (with_reducible exact attr_reader_list.mono _ _ _ _ _)
   | (with_reducible exact LeO.refl _)
   | (with_reducible refine LeO.ite ?_ ?_)
   | (with_reducible refine LeO.bind ?_ (fun _ => ?_))
set_option maxHeartbeats 4000000 in
set_option maxRecDepth 100000 in
theorem attr_read.calls (k : Nat) (a0 : ByteArray) (a1 : Bool) (r1 : List S54) (r2 : Int) (r3 : Int) (w : World) (h : attr_read.f k a0 a1 = some (r1, r2, r3)) :
  Calls Tryz.prog 58 #[.string a0, .bool a1] w fun e w' => ∃ v0_ : Value, e = .returned (.tuple #[v0_, .int .i64 r2, .int .i64 r3]) ∧ Kd.R k54 54 w' w.heap.size (fun _ => True) v0_ r1 ∧ Below w.heap.size w w' := by
 unfold attr_read.f at h
 have hu103 := Tryz.underlying103
 by_cases hs : (a0.size : Int) > 65536
 ·
  rw [if_pos hs] at h
  simp only [Option.some.injEq, Prod.mk.injEq] at h
  obtain ⟨rfl, rfl, rfl⟩ := h
  have c2b0 : decide (65536 < (a0.size : Int)) = true := decide_eq_true hs
  have c2b1 : decide (65536 < a0.size) = true := decide_eq_true (by omega)
  clear hs
  go_enter Tryz.func58, Tryz.ntmps58
  go_wp2
  go_ret3
  exact ⟨_, rfl, Kd.R_nil _ _ _ _ _, Below.refl _ _⟩
 ·
  rw [if_neg hs] at h
  obtain ⟨⟨l, s, at_, bad⟩, hl, h⟩ := Option.bind_eq_some_iff.mp h
  have c2b0 : decide (65536 < (a0.size : Int)) = false := decide_eq_false hs
  have c2b1 : decide (65536 < a0.size) = false := decide_eq_false (by omega)
  clear hs
  have HL := Aside0.mk hl
  clear hl
  have hI := IsS103.new w w a0 0 false (Below.refl _ _)
  have hb0 := (Below.refl w.heap.size w).alloc (Nat.le_refl _) (.cells #[.string a0, .int .i64 0, .bool false] 103)
  cases bad with
  | true =>
   rw [if_pos rfl] at h
   simp only [Option.some.injEq, Prod.mk.injEq] at h
   obtain ⟨rfl, rfl, rfl⟩ := h
   have HI := Aside0.mk hI
   have HB := Aside0.mk hb0
   clear hI hb0
   go_enter Tryz.func58, Tryz.ntmps58
   go_wp2_with (go_at_call 79; (with_reducible refine (attr_reader_list.calls k _ a0 0 false a1 l s at_ true w _ ?s1 ?s2 HL.out).mono ?_); (case s1 => exact HI.out); (case s2 => exact HB.out); rintro e w1 ⟨v0, rfl, ho, hi, hb, hk⟩; obtain ⟨HG, hg⟩ := hi; have hc0 := cellS103_0 HG; have hc1 := cellS103_1 HG; have hc2 := cellS103_2 HG; have HBB := Aside0.mk hb; clear ho hb hk HG hg HI HB)
   repeat (go_quiet (fail); try go_wp2)
   go_ret3
   exact ⟨_, rfl, Kd.R_nil _ _ _ _ _, pw_below_drewN HBB.out _⟩
  | false =>
   rw [if_neg (by simp)] at h
   simp only [Option.some.injEq, Prod.mk.injEq] at h
   obtain ⟨rfl, rfl, rfl⟩ := h
   have HI := Aside0.mk hI
   have HB := Aside0.mk hb0
   clear hI hb0
   go_enter Tryz.func58, Tryz.ntmps58
   go_wp2_with (go_at_call 79; (with_reducible refine (attr_reader_list.calls k _ a0 0 false a1 l s at_ false w _ ?s1 ?s2 HL.out).mono ?_); (case s1 => exact HI.out); (case s2 => exact HB.out); rintro e w1 ⟨v0, rfl, ho, hi, hb, hk⟩; obtain ⟨HG, hg⟩ := hi; have hc0 := cellS103_0 HG; have hc1 := cellS103_1 HG; have hc2 := cellS103_2 HG; have HBB := Aside0.mk hb; have HO := Aside0.mk ho; clear ho hb hk HG hg HI)
   go_ret3
   exact ⟨_, rfl, Kd.R_lower HO.out (below_size HB.out), HBB.out⟩
end Go.Proofs.YtnfanpjfhdlddaaGreatDoor.Pr
end
section
namespace Go.Proofs.YtnfanpjfhdlddaaGreatDoor.Pr
open Go.RowKit Go.Proofs.YtnfanpjfhdlddaaGreatDoorW.PrintWords Go.Proofs.YtnfanpjfhdlddaaGreatDoorW.PrintLast Go.Proofs.YtnfanpjfhdlddaaGreatDoorW.PrintMore
attribute [local go_sem] max2_int min2_int max_two min_two max_three min_three max_four min_four strGtr strLeq strGeq
set_option linter.unusedVariables false
set_option linter.unusedSimpArgs false
def attr_Parse.l0 : Nat → List (S45) → List (S54) → Int → Int → Option ((List (S45)) × Int × Int)
  | 0, _, _, _, _ => none
  | k + 1, x8, x21, x22, x23 => if x23 < x22 then (if 0 ≤ x23 then (if x23 < (x21.length : Int) then (if x8.length < 4398046511104 then (attr_Parse.l0 k (x8 ++ [(⟨(rd_T54 x21 x23).f1, (rd_T54 x21 x23).f2⟩ : S45)]) x21 x22 (wrap64 (x23 + 1))) else (none)) else (none)) else (none)) else ((attr_Make.f k x8).bind fun bt273 => (some (bt273.1, bt273.2, 0)))
def attr_Parse.f (k : Nat) (a0 : ByteArray) : Option ((List (S45)) × Int × Int) := (attr_read.f k a0 false).bind fun bt263 => (if bt263.2.1 = 0 then (attr_Parse.l0 k ([] : List (S45)) bt263.1 (bt263.1.length : Int) 0) else (some (([] : List (S45)), bt263.2.1, bt263.2.2)))
theorem attr_Parse.mono_l : ∀ k, (∀ y0 y1 y2 y3, LeO (attr_Parse.l0 k y0 y1 y2 y3) (attr_Parse.l0 (k + 1) y0 y1 y2 y3))
 | 0 => fun _ _ _ _ r h => by simp [attr_Parse.l0] at h
 | k + 1 => by
  have ih0 := attr_Parse.mono_l k
  ·
   intro y0 y1 y2 y3
   unfold attr_Parse.l0
   repeat' first
   | (with_reducible exact ih0 _ _ _ _)
   | (with_reducible exact attr_Make.mono _ _)
   | (with_reducible exact attr_read.mono _ _ _)
   | (with_reducible exact LeO.refl _)
   | (with_reducible exact LeO.none _)
   | (with_reducible refine LeO.ite ?_ ?_)
   | (with_reducible refine LeO.bind ?_ (fun _ => ?_))
   | exact ih0 _ _ _ _
   | exact attr_Make.mono _ _
   | exact attr_read.mono _ _ _
   | exact LeO.none _
   | refine LeO.ite ?_ ?_
   | refine LeO.bind ?_ (fun _ => ?_)
theorem attr_Parse.mono : ∀ a0 k, LeO (attr_Parse.f k a0) (attr_Parse.f (k + 1) a0) := by
 intro a0 k
 have ih0 := attr_Parse.mono_l k
 unfold attr_Parse.f
 repeat' first
   | (with_reducible exact ih0 _ _ _ _)
   | (with_reducible exact attr_Make.mono _ _)
   | (with_reducible exact attr_read.mono _ _ _)
   | (with_reducible exact LeO.refl _)
   | (with_reducible exact LeO.none _)
   | (with_reducible refine LeO.ite ?_ ?_)
   | (with_reducible refine LeO.bind ?_ (fun _ => ?_))
   | exact ih0 _ _ _ _
   | exact attr_Make.mono _ _
   | exact attr_read.mono _ _ _
   | exact LeO.none _
   | refine LeO.ite ?_ ?_
   | refine LeO.bind ?_ (fun _ => ?_)
set_option maxHeartbeats 8000000 in
set_option maxRecDepth 100000 in
theorem attr_Parse.calls (k : Nat) (a0 : ByteArray) (r1 : List (S45)) (r2 : Int) (r3 : Int) (w : World) (h : attr_Parse.f k a0 = some (r1, r2, r3)) (he_ : EnvW w := by repeat (first | with_reducible assumption | with_reducible exact env_of (by with_reducible assumption) (by with_reducible assumption) | with_reducible exact env_out (by with_reducible assumption) | with_reducible apply env_alloc | with_reducible apply env_drewN | with_reducible apply env_drew | with_reducible refine env_set ?_ (by with_reducible assumption) (by with_reducible assumption))) :
  Calls Tryz.prog 39 #[.string a0] w fun e w' => ∃ v0_ : Value, e = .returned (.tuple #[v0_, .int .i64 r2, .int .i64 r3]) ∧ Kd.R k45 45 w' w.heap.size (fun _ => True) v0_ r1 ∧ Below w.heap.size w w' := by
 have HE_ := Aside0.mk he_
 clear he_
 have hu54 := Tryz.underlying54
 have hu45 := Tryz.underlying45
 have HB := Aside0.mk (Below.refl w.heap.size w)
 have H : ((attr_read.f k a0 false).bind fun bt263 => (if bt263.2.1 = 0 then (attr_Parse.l0 k ([] : List (S45)) bt263.1 (bt263.1.length : Int) 0) else (some (([] : List (S45)), bt263.2.1, bt263.2.2)))) = some (r1, r2, r3) := h
 clear h
 replace H := Option.bind_eq_some_iff.mp H
 obtain ⟨⟨t263, t264, t265⟩, A20, H⟩ := H
 replace H : (if t264 = 0 then (attr_Parse.l0 k ([] : List (S45)) t263 (t263.length : Int) 0) else (some (([] : List (S45)), t264, t265))) = some (r1, r2, r3) := H
 have A2 := Aside0.mk A20
 clear A20
 by_cases c3 : t264 = 0
 ·
  rw [if_pos c3] at H
  have c3b0 : (t264 == 0) = true := beq_iff_eq.mpr c3
  have c3b1 : (t264 != 0) = false := bne_eq_false_iff_eq.mpr c3
  clear c3
  have H' := Aside0.mk H
  clear H
  go_enter Tryz.func39, Tryz.ntmps39
  go_wp2_with (first | ((with_reducible refine gate_callee (f := 58) rfl ?_); refine goesL_ (some 13) rfl rfl Tryz.func58 (by kernel_rfl) rfl #[.string a0, .bool false] rfl (by (try simp only [List.map_toArray, List.map_cons, List.map_nil]); first | done | rfl | (simp only [List.length_drop, List.length_take]; rfl)) ?_; (with_reducible refine (attr_read.calls k a0 false t263 t264 t265 _ A2.out).mono ?_); rintro e w4 ⟨v266, rfl, ho0, hb⟩; refine ⟨_, rfl, ?_⟩; have n0_ := Aside0.mk (Kd.R_lower ho0 (below_size (by repeat (first | (with_reducible first | exact HB.out | apply below_alloc | apply pw_below_drewN | apply below_drew1) | exact HB.out)))); have n1_ := Aside0.mk (below_step (by repeat (first | (with_reducible first | exact HB.out | apply below_alloc | apply pw_below_drewN | apply below_drew1) | exact HB.out)) hb); clear HB; have HO267 := n0_; have HB := n1_; clear n0_ n1_; (try clear hb); (try clear hb2); (try clear hk); (try clear hi); (try clear ho0); obtain ⟨Ao5, co5, eo5⟩ := Kd.R_slice HO267.out; subst eo5))
  go_loopg [8, 23] k (fun kq v8 v23 w' => ∃ (x8_1 : List (S45)) (x23_1 : Int), v23 = .int .i64 x23_1 ∧ Aside0 (attr_Parse.l0 kq x8_1 t263 (t263.length : Int) x23_1 = some (r1, r2, r3)) ∧ Aside0 (kq ≤ k) ∧ Aside0 (Kd.R k45 45 w' w.heap.size (fun _ => True) v8 x8_1) ∧ Aside0 (Kd.R k54 54 w' w.heap.size (fun _ => True) (.slice Ao5 t263.length co5) t263) ∧ Aside0 (Below w.heap.size w w'))
  case atStart => exact ⟨(([] : List (S45))), (0), (by first | rfl | (simp; done) | (simp [*]; done)), H', ⟨Nat.le_refl _⟩, ⟨by first | exact Kd.R_nil _ _ _ _ _ | exact Kd.N_nil _ _ _ _ _ | exact Kd.V_nil _ _ _ _ _ | exact Kd.Q_nil _ _ _ _ _ | exact Kd.S_nil _ _ _ _ _⟩, ⟨by (with_reducible repeat (first | apply Kd.R_alloc | apply Kd.R_drewN | apply Kd.R_drew)); exact HO267.out⟩, ⟨by repeat (first | (with_reducible first | exact HB.out | apply below_alloc | apply pw_below_drewN | apply below_drew1) | exact HB.out)⟩⟩
  case round =>
   clear H'
   try clear p2
   try clear c3
   try clear c3b0
   try clear c3b1
   try clear c5
   obtain ⟨x8_1, x23_1, rfl, HA, HK1, HO_8, HO_21, HB⟩ := hrel
   cases gk with
   | zero => exact absurd HA.out (by simp [attr_Parse.l0])
   | succ k1 =>
    have H := HA.out
    clear HA
    simp only [attr_Parse.l0] at H
    by_cases c6 : x23_1 < (t263.length : Int)
    ·
     rw [if_pos c6] at H
     have c6b0 : decide (x23_1 < (t263.length : Int)) = true := decide_eq_true c6
     clear c6
     by_cases c7 : 0 ≤ x23_1
     ·
      rw [if_pos c7] at H
      have c7b0 : decide (0 ≤ x23_1) = true := decide_eq_true c7
      clear c7
      by_cases c8 : x23_1 < (t263.length : Int)
      ·
       rw [if_pos c8] at H
       have c8b0 : decide (x23_1 < (t263.length : Int)) = true := decide_eq_true c8
       clear c8
       by_cases c9 : x8_1.length < 4398046511104
       ·
        rw [if_pos c9] at H
        have LMc9 := Aside0.mk c9
        clear c9
        obtain ⟨y270, hy270⟩ : ∃ y_ : List (S45), y_ = (x8_1 ++ [(⟨(rd_T54 t263 x23_1).f1, (rd_T54 t263 x23_1).f2⟩ : S45)]) := ⟨_, rfl⟩
        replace H : (attr_Parse.l0 k1 y270 t263 (t263.length : Int) (wrap64 (x23_1 + 1))) = some (r1, r2, r3) := by first | (rw [hy270]; with_reducible exact H) | (have H2_ := (Option.bind_some _ _).symm.trans H; rw [hy270]; with_reducible exact H2_) | (have H2_ := (Option.bind_some _ _).symm.trans H; with_reducible exact H2_) | with_reducible exact H | (rw [hy270]; exact H) | exact H
        have Ny270 := Aside0.mk hy270
        clear hy270
        have H' := Aside0.mk H
        clear H
        have p268 : 0 ≤ (x23_1 : Int) := of_decide_eq_true (by first | (with_reducible assumption) | assumption)
        have q268 : x23_1 < (t263.length : Int) := of_decide_eq_true (by first | (with_reducible assumption) | assumption)
        obtain ⟨ad268, e268, hx268_0, hx268_1, hx268_2⟩ := at_T54 (Kd.R_reads' HO_21.out).2.2 x23_1 p268 q268
        cases e268
        replace p268 := eq_true p268
        replace q268 := eq_true q268
        go_wp2_with (first | ((with_reducible refine gate_dst (N := 10) rfl ?_); refine box_event ?hg (N := 10) ?hd (cs := #[.int .i64 0, .string (⟨#[]⟩ : ByteArray), .string (⟨#[]⟩ : ByteArray)]) (t := 54) ?hr ?_; (case hd => rfl); (case hg => rfl); (case hr => first | (go_simp; done) | (go_simp; rfl)); intro gb269 hg w10 hbox hb; have n0_ := Aside0.mk (Kd.R_below (by (with_reducible repeat (first | apply Kd.R_alloc | apply Kd.R_drewN | apply Kd.R_drew)); exact HO_8.out) hb); have n1_ := Aside0.mk (Kd.R_below (Kd.R_elderB (by (with_reducible repeat (first | apply Kd.R_alloc | apply Kd.R_drewN | apply Kd.R_drew)); exact HO_21.out) gb269 (Nat.le_of_eq hg.symm)) hb); have n2_ := Aside0.mk (below_step (by repeat (first | (with_reducible first | exact HB.out | apply below_alloc | apply pw_below_drewN | apply below_drew1) | exact HB.out)) hb); have n3_ := Aside0.mk (hbox); have n4_ := Aside0.mk ((by rw [hg]; exact (below_size (by repeat (first | (with_reducible first | exact HB.out | apply below_alloc | apply pw_below_drewN | apply below_drew1) | exact HB.out))) : w.heap.size ≤ gb269)); have n5_ := Aside0.mk ((by rw [hg]; exact (below_size (by repeat (first | (with_reducible first | exact HB.out | apply below_alloc | apply pw_below_drewN | apply below_drew1) | exact HB.out))) : w.heap.size ≤ gb269)); clear HO_8; clear HO_21; clear HB; have HO_8 := n0_; have HO_21 := n1_; have HB := n2_; have BK269 := n3_; have GW269 := n4_; have GE269 := n5_; clear n0_ n1_ n2_ n3_ n4_ n5_; clear hb hbox hg; have hcz11_0 : w10.cell? ⟨gb269, 0, none⟩ = some (.int .i64 0) := (blk_cell BK269.out 0).trans rfl; have hcz11_1 : w10.cell? ⟨gb269, 1, none⟩ = some (.string (⟨#[]⟩ : ByteArray)) := (blk_cell BK269.out 1).trans rfl; have hcz11_2 : w10.cell? ⟨gb269, 2, none⟩ = some (.string (⟨#[]⟩ : ByteArray)) := (blk_cell BK269.out 2).trans rfl; have hfz11_0 := blk_frozen BK269.out 0; have hfz11_1 := blk_frozen BK269.out 1; have hfz11_2 := blk_frozen BK269.out 2) | ((with_reducible refine gate_builtin (b := .append) (xs := #[.tmp 27, .tmp 33]) rfl ?_); at_builtin; refine Kd.R_append k45 (w0 := w) w.heap.size rfl (.tmp 27) (.tmp 33) 22 45 (.agg #[(.string ⟨#[]⟩), (.string ⟨#[]⟩)]) 32 rfl Tryz.underlying22 info45 rfl (by decide) (by omega) u8 x8_1 (⟨(rd_T54 t263 x23_1).f1, (rd_T54 t263 x23_1).f2⟩ : S45) [.string ((rd_T54 t263 x23_1).f1), .string ((rd_T54 t263 x23_1).f2)] (fun _ => True) (fun _ => False) rfl (by first | (go_simp; done) | (go_simp; rfl)) ?aP (fun _ hk => hk.elim) ?aF ?aO ?aB ?aS ?aL ?_; (case aP => exact k45_mkM _ _ _ (⟨(rd_T54 t263 x23_1).f1, (rd_T54 t263 x23_1).f2⟩ : S45)); (case aB => exact (by repeat (first | (with_reducible first | exact HB.out | apply below_alloc | apply pw_below_drewN | apply below_drew1 | refine below_set ?_ GE269.out) | exact HB.out))); (case aF => exact (fun _ _ => trivial)); (case aO => exact (by (with_reducible repeat (first | apply Kd.R_alloc | apply Kd.R_drewN | apply Kd.R_drew)); exact Kd.R_mono (Kd.R_far (p := ⟨gb269, 2, none⟩) (Kd.R_far (p := ⟨gb269, 1, none⟩) (Kd.R_far (p := ⟨gb269, 0, none⟩) (Kd.R_types HO_8.out BK269.out (by decide)) (fun _ hk => hk.2) (.int .i64 ((rd_T54 t263 x23_1).f0))) (fun _ hk => hk.2) (.string ((rd_T54 t263 x23_1).f1))) (fun _ hk => hk.2) (.string ((rd_T54 t263 x23_1).f2))) (fun _ hk => trivial))); (case aS => exact (below_size (by repeat (first | (with_reducible first | exact HB.out | apply below_alloc | apply pw_below_drewN | apply below_drew1 | refine below_set ?_ GE269.out) | exact HB.out)))); (case aL => have := LMc9.out; omega); intro v271 w12 ho hb hg hat; rw [← Ny270.out] at ho; have n0_ := Aside0.mk (Kd.R_over' (by (with_reducible repeat (first | apply Kd.R_alloc | apply Kd.R_drewN | apply Kd.R_drew)); exact (Kd.R_mono (Kd.R_far (p := ⟨gb269, 2, none⟩) (Kd.R_far (p := ⟨gb269, 1, none⟩) (Kd.R_far (p := ⟨gb269, 0, none⟩) (Kd.R_mono HO_21.out (fun k_ hk => (⟨hk, hk.2⟩ : _ ∧ k_ ≠ gb269))) (fun _ hk => hk.2) (.int .i64 ((rd_T54 t263 x23_1).f0))) (fun _ hk => hk.2) (.string ((rd_T54 t263 x23_1).f1))) (fun _ hk => hk.2) (.string ((rd_T54 t263 x23_1).f2))) (fun _ h_ => h_.1))) (Kd.R_typed (by (with_reducible repeat (first | apply Kd.R_alloc | apply Kd.R_drewN | apply Kd.R_drew)); exact (Kd.R_mono (Kd.R_far (p := ⟨gb269, 2, none⟩) (Kd.R_far (p := ⟨gb269, 1, none⟩) (Kd.R_far (p := ⟨gb269, 0, none⟩) (Kd.R_types HO_8.out BK269.out (by decide)) (fun _ hk => hk.2) (.int .i64 ((rd_T54 t263 x23_1).f0))) (fun _ hk => hk.2) (.string ((rd_T54 t263 x23_1).f1))) (fun _ hk => hk.2) (.string ((rd_T54 t263 x23_1).f2))) (fun _ h_ => h_.1)))) (by decide) hg); have n1_ := Aside0.mk (blk_grown (g := gb269) (o := .cells #[.int .i64 ((rd_T54 t263 x23_1).f0), .string ((rd_T54 t263 x23_1).f1), .string ((rd_T54 t263 x23_1).f2)] 54 (0, 0)) (by (with_reducible repeat (first | refine blk_drewN ?_ _ | refine blk_drew ?_ | refine blk_alloc ?_ _)); refine blk_put (cs := #[.int .i64 ((rd_T54 t263 x23_1).f0), .string ((rd_T54 t263 x23_1).f1), .string (⟨#[]⟩ : ByteArray)]) ?_ 2 _ rfl; (with_reducible repeat (first | refine blk_drewN ?_ _ | refine blk_drew ?_ | refine blk_alloc ?_ _)); refine blk_put (cs := #[.int .i64 ((rd_T54 t263 x23_1).f0), .string (⟨#[]⟩ : ByteArray), .string (⟨#[]⟩ : ByteArray)]) ?_ 1 _ rfl; (with_reducible repeat (first | refine blk_drewN ?_ _ | refine blk_drew ?_ | refine blk_alloc ?_ _)); refine blk_put (cs := #[.int .i64 0, .string (⟨#[]⟩ : ByteArray), .string (⟨#[]⟩ : ByteArray)]) ?_ 0 _ rfl; (with_reducible repeat (first | refine blk_drewN ?_ _ | refine blk_drew ?_ | refine blk_alloc ?_ _)); exact BK269.out) hg (Kd.R_ne HO_8.out BK269.out (by decide))); have n2_ := Aside0.mk (hb); have n3_ := Aside0.mk (ho); clear HO_21; clear BK269; clear HB; clear HO_8; have HO_21 := n0_; have BK269 := n1_; have HB := n2_; have HO272 := n3_; clear n0_ n1_ n2_ n3_; clear ho hb hg hat))
        go_roundg k1
        case measure => have := HK1.out; omega
        case rel => exact ⟨(y270), (wrap64 (x23_1 + 1)), (by first | rfl | (simp; done) | (simp [*]; done)), H', ⟨by have := HK1.out; omega⟩, ⟨by (with_reducible repeat (first | apply Kd.R_alloc | apply Kd.R_drewN | apply Kd.R_drew)); exact HO272.out⟩, ⟨by (with_reducible repeat (first | apply Kd.R_alloc | apply Kd.R_drewN | apply Kd.R_drew)); exact Kd.R_mono HO_21.out (fun _ hk => trivial)⟩, ⟨by repeat (first | (with_reducible first | exact HB.out | apply below_alloc | apply pw_below_drewN | apply below_drew1 | refine below_set ?_ GE269.out) | exact HB.out)⟩⟩
       ·
        rw [if_neg c9] at H
        exact absurd H (by simp)
      ·
       rw [if_neg c8] at H
       exact absurd H (by simp)
     ·
      rw [if_neg c7] at H
      exact absurd H (by simp)
    ·
     rw [if_neg c6] at H
     have c6b0 : decide (x23_1 < (t263.length : Int)) = false := decide_eq_false c6
     clear c6
     replace H := Option.bind_eq_some_iff.mp H
     obtain ⟨⟨t273, t274⟩, A130, H⟩ := H
     replace H : (some (t273, t274, 0)) = some (r1, r2, r3) := H
     have A13 := Aside0.mk A130
     clear A130
     simp only [Option.some.injEq, Prod.mk.injEq] at H
     obtain ⟨rfl, rfl, rfl⟩ := H
     obtain ⟨Ao14, co14, eo14⟩ := Kd.R_slice HO_8.out
     subst eo14
     go_wp2_with (first | ((with_reducible refine gate_callee (f := 8) rfl ?_); refine goesL_ (some 38) rfl rfl Tryz.func8 (by kernel_rfl) rfl #[.slice Ao14 x8_1.length co14] rfl (by (try simp only [List.map_toArray, List.map_cons, List.map_nil]); first | done | rfl | (simp only [List.length_drop, List.length_take]; rfl)) ?_; (with_reducible refine (attr_Make.calls k1 _ _ x8_1 t273 t274 _ ?side1 ?side2 A13.out).mono ?_); (case side1 => repeat (first | exact (Kd.R_reads' HO_8.out).2.2 | (with_reducible refine Kd.C_alloc ?_ _) | (with_reducible refine Kd.C_drewN ?_ _) | (with_reducible refine Kd.C_drew ?_))); (case side2 => exact (Kd.R_reads' HO_8.out).2.1); rintro e w15 ⟨v275, rfl, ho0, hb⟩; refine ⟨_, rfl, ?_⟩; have n0_ := Aside0.mk (Kd.R_elder' (by (with_reducible repeat (first | apply Kd.R_alloc | apply Kd.R_drewN | apply Kd.R_drew)); exact HO_8.out) (Kd.R_base ho0) hb); have n1_ := Aside0.mk (Kd.R_below (by (with_reducible repeat (first | apply Kd.R_alloc | apply Kd.R_drewN | apply Kd.R_drew)); exact HO_21.out) hb); have n2_ := Aside0.mk (Kd.R_lower (Kd.R_new' ho0 (Kd.R_lt (by (with_reducible repeat (first | apply Kd.R_alloc | apply Kd.R_drewN | apply Kd.R_drew)); exact HO_8.out))) (below_size (by repeat (first | (with_reducible first | exact HB.out | apply below_alloc | apply pw_below_drewN | apply below_drew1) | exact HB.out)))); have n3_ := Aside0.mk (below_step (by repeat (first | (with_reducible first | exact HB.out | apply below_alloc | apply pw_below_drewN | apply below_drew1) | exact HB.out)) hb); clear HO_8; clear HO_21; clear HB; have HO_8 := n0_; have HO_21 := n1_; have HO276 := n2_; have HB := n3_; clear n0_ n1_ n2_ n3_; (try clear hb); (try clear hb2); (try clear hk); (try clear hi); (try clear ho0)))
     go_ret3
     exact ⟨_, by first | rfl | (simp [errW_none, errW_some] <;> rfl) | (simp [*, errW_none, errW_some] <;> rfl), by (with_reducible repeat (first | apply Kd.R_alloc | apply Kd.R_drewN | apply Kd.R_drew)); exact Kd.R_mono HO276.out (fun _ hk => trivial), by repeat (first | (with_reducible first | exact HB.out | apply below_alloc | apply pw_below_drewN | apply below_drew1) | exact HB.out)⟩
 ·
  rw [if_neg c3] at H
  have c3b0 : (t264 == 0) = false := beq_eq_false_iff_ne.mpr c3
  have c3b1 : (t264 != 0) = true := bne_iff_ne.mpr c3
  simp only [Option.some.injEq, Prod.mk.injEq] at H
  obtain ⟨rfl, rfl, rfl⟩ := H
  go_enter Tryz.func39, Tryz.ntmps39
  go_wp2_with (first | ((with_reducible refine gate_callee (f := 58) rfl ?_); refine goesL_ (some 13) rfl rfl Tryz.func58 (by kernel_rfl) rfl #[.string a0, .bool false] rfl (by (try simp only [List.map_toArray, List.map_cons, List.map_nil]); first | done | rfl | (simp only [List.length_drop, List.length_take]; rfl)) ?_; (with_reducible refine (attr_read.calls k a0 false t263 t264 t265 _ A2.out).mono ?_); rintro e w16 ⟨v266, rfl, ho0, hb⟩; refine ⟨_, rfl, ?_⟩; have n0_ := Aside0.mk (Kd.R_lower ho0 (below_size (by repeat (first | (with_reducible first | exact HB.out | apply below_alloc | apply pw_below_drewN | apply below_drew1) | exact HB.out)))); have n1_ := Aside0.mk (below_step (by repeat (first | (with_reducible first | exact HB.out | apply below_alloc | apply pw_below_drewN | apply below_drew1) | exact HB.out)) hb); clear HB; have HO267 := n0_; have HB := n1_; clear n0_ n1_; (try clear hb); (try clear hb2); (try clear hk); (try clear hi); (try clear ho0)))
  go_ret3
  exact ⟨_, by first | rfl | (simp [errW_none, errW_some] <;> rfl) | (simp [*, errW_none, errW_some] <;> rfl), by first | exact Kd.R_nil _ _ _ _ _ | exact Kd.N_nil _ _ _ _ _ | exact Kd.V_nil _ _ _ _ _ | exact Kd.Q_nil _ _ _ _ _ | exact Kd.S_nil _ _ _ _ _, by repeat (first | (with_reducible first | exact HB.out | apply below_alloc | apply pw_below_drewN | apply below_drew1) | exact HB.out)⟩
end Go.Proofs.YtnfanpjfhdlddaaGreatDoor.Pr
end
section
set_option linter.unusedVariables false
set_option linter.unusedSimpArgs false
namespace Go.Proofs.YtnfanpjfhdlddaaGreatDoor.Pr
open Go.RowKit Go.Shelf Go.Proofs.YtnfanpjfhdlddaaGreatDoorW.PrintWords Go.Proofs.YtnfanpjfhdlddaaGreatDoorW.PrintLast Go.Proofs.YtnfanpjfhdlddaaGreatDoorW.PrintMore
attribute [local go_sem] Oper.semAt_some
theorem rd_map {α : Type} (φ : α → S45) (ys : List α) (k : Nat) (h : k < ys.length) : rd_T45 (ys.map φ) (k : Int) = φ ys[k] := by
 simp [rd_T45, h]
theorem take_get {α : Type} (ys : List α) (k : Nat) (h : k < ys.length) : ys.take (k + 1) = ys.take k ++ [ys[k]] := by simp
set_option maxRecDepth 100000 in
set_option maxHeartbeats 2000000 in
theorem each1_in {α : Type} (φ : α → S45) (ys : List α) (F : Fence) (n : Nat) (h44 : F.fn 44) (hro : F.round = none) (hn : 1 ≤ n) (l Bs c : Nat) (A : Option Addr) (xs : List S45) (hxs : ys.map φ = xs) (w0 : World) (hC : k45.C w0 A xs.length xs) (hcap : xs.length ≤ c) (J Jx : List α → World → Prop) (hJa : ∀ pre W o, Below w0.heap.size w0 W → J pre W → J pre (W.alloc o))
  (hY : ∀ pre x W, J pre W → pre.length < xs.length → YieldAt F (n - 1) Tryz.prog l #[.string (φ x).f0, .string (φ x).f1] W fun e W' =>
   (e = .returned (.bool true) ∧ J (pre ++ [x]) W' ∧ Below w0.heap.size W W') ∨ (e = .returned (.bool false) ∧ Jx (pre ++ [x]) W'))
  (W : World) (hW : Below w0.heap.size w0 W) (hBs : W.cell? ⟨Bs, 0, none⟩ = some (.slice A xs.length c)) (h0 : J [] W) :
  CallsIn F n Tryz.prog 44 #[.func (.yield l) #[] #[], .pointer (some ⟨Bs, 0, none⟩)] W fun e W' => (∃ v, e = .returned v) ∧
   ((∃ zs, zs = ys ∧ J zs W') ∨ (∃ pre, pre <+: ys ∧ Jx pre W')) := by
 have hlen : ys.length = xs.length := by rw [← hxs, List.length_map]
 refine callsIn_of_wp Tryz.func44 rfl h44 ?_ hro
 simp only [Tryz.ntmps44, List.size_toArray, List.length_cons, List.length_nil, Nat.reduceAdd, Nat.reduceSub, Array.replicate_succ, Array.replicate_zero, List.push_toArray, List.append_toArray, List.nil_append, List.cons_append]
 gi_wp2
 gi_loopw [7] (fun i wr => ∃ k : Nat, k ≤ xs.length ∧ i = .int .i64 k ∧ J (ys.take k) wr ∧ Below w0.heap.size w0 wr)
  (fun i _ => xs.length - (intOf i).toNat)
 case atStart => exact ⟨0, Nat.zero_le _, rfl, h0, hW⟩
 case round =>
  obtain ⟨k, hk, rfl, hJk, hB⟩ := hrel
  by_cases hlt : k < xs.length
  ·
   obtain ⟨ad, e, hx0, hx1⟩ := at_T45 hC (k : Int) (by omega) (by omega)
   subst e
   replace hx0 := (hB.cell (World.block_lt_of_cell? w0 _ hx0)).trans hx0
   replace hx1 := (hB.cell (World.block_lt_of_cell? w0 _ hx1)).trans hx1
   rw [Int.toNat_natCast] at hx0 hx1
   have hmx := (flat45.C hC).2.1
   have hw : wrap64 ((k : Int) + 1) = (k : Int) + 1 := by unfold wrap64; omega
   have hbl : (k : Int) < (xs.length : Int) := by omega
   have HB := Aside0.mk hB
   have hky : k < ys.length := by omega
   have hrd : φ ys[k] = rd_T45 xs (k : Int) := by subst hxs; exact (rd_map φ ys k hky).symm
   have hY' := hY (ys.take k) ys[k]
   rw [hrd] at hY'
   obtain ⟨fn, tmps, assign, body, hy, hR⟩ := hY' (wr.alloc (.cells #[.string (rd_T45 xs (k : Int)).f0, .string (rd_T45 xs (k : Int)).f1] 45)) (hJa _ _ _ hB hJk) (by simp; omega)
   gi_wp2
   refine hR.mono ?_
   rintro e W3 (⟨rfl, hJ3, hk3⟩ | ⟨rfl, hJx3⟩)
   ·
    have HB3 := Aside0.mk ((HB.out.alloc HB.out.size _).trans hk3)
    clear hk3
    gi_wp2
    go_roundw
    case rel => exact ⟨k + 1, by omega, by simp [hw], by rw [take_get ys k hky]; exact hJ3, HB3.out⟩
    case measure => simp [intOf, hw]; omega
   ·
    gi_wp2
    refine bodyPost_ret (results_none rfl _ _ _) rfl ?_
    exact ⟨⟨_, rfl⟩, .inr ⟨_, ⟨ys.drop (k + 1), by rw [← take_get ys k hky]; exact List.take_append_drop _ _⟩, hJx3⟩⟩
  ·
   obtain rfl : k = xs.length := by omega
   gi_wp2
   go_end0
   exact ⟨⟨_, rfl⟩, .inl ⟨_, by rw [← hlen]; exact List.take_length, hJk⟩⟩
set_option maxHeartbeats 1000000 in
theorem each_in (F : Fence) (n : Nat) (h27 : F.fn 27) (hro : F.round = none) (A : Option Addr) (len c : Nat) (w : World) :
  CallsIn F n Tryz.prog 27 #[.slice A len c] w fun e w' => e = .returned (.func (.func 44) #[] #[.pointer (some ⟨w.heap.size, 0, none⟩)]) ∧ w' = w.alloc (.cells #[.slice A len c] 22) := by
 refine callsIn_of_wp Tryz.func27 rfl h27 ?_ hro
 simp only [Tryz.ntmps27, List.size_toArray, List.length_cons, List.length_nil, Nat.reduceAdd, Nat.reduceSub, Array.replicate_succ, Array.replicate_zero, List.push_toArray, List.append_toArray, List.nil_append, List.cons_append]
 gi_wp2
 go_ret
 exact ⟨rfl, rfl⟩
theorem each_stops {α : Type} (φ : α → S45) (ys : List α) (F : Fence) (n : Nat) (h44 : F.fn 44) (hro : F.round = none) (hn : 1 ≤ n) (Bs c : Nat) (A : Option Addr) (xs : List S45) (hxs : ys.map φ = xs) (w0 w : World) (hC : k45.C w0 A xs.length xs) (hcap : xs.length ≤ c) (hB : Below w0.heap.size w0 w) (hBs : w.cell? ⟨Bs, 0, none⟩ = some (.slice A xs.length c)) :
  SeqStopsK F n Tryz.prog 44 #[.pointer (some ⟨Bs, 0, none⟩)] (fun x : α => #[.string (φ x).f0, .string (φ x).f1]) (Below w0.heap.size) (fun zs => zs = ys) (fun pre => pre <+: ys) xs.length w := fun l J Jx W hW hJ hJx hY h0 =>
 each1_in φ ys F n h44 hro hn l Bs c A xs hxs w0 hC hcap J Jx (fun pre W1 o _ h => hJ pre W1 _ none h (World.grownBy_alloc W1 o none) (fun r e => by cases e)) hY W (hB.trans (hW.mono hB.size)) ((hW.cell (World.block_lt_of_cell? w _ hBs)).trans hBs) h0
end Go.Proofs.YtnfanpjfhdlddaaGreatDoor.Pr
end
section
set_option linter.unusedVariables false
set_option linter.unusedSimpArgs false
namespace Go.Proofs.YtnfanpjfhdlddaaGreatDoor.Pr
theorem disable (w : World) : (callFunc 141 #[]).run Tryz.prog w = .ok (.value (.tuple #[])) w := run_call_mark0 Tryz.func141 (by kernel_rfl) (by kernel_rfl) (by kernel_rfl) .disable (by kernel_rfl) w
theorem enable (w : World) : (callFunc 143 #[]).run Tryz.prog w = .ok (.value (.tuple #[])) w := run_call_mark0 Tryz.func143 (by kernel_rfl) (by kernel_rfl) (by kernel_rfl) .enable (by kernel_rfl) w
theorem acquire (a : Addr) (w : World) : (callFunc 144 #[.pointer (some a)]).run Tryz.prog w = .ok (.value (.tuple #[])) w := run_call_marked Tryz.func144 (by kernel_rfl) (by kernel_rfl) (by kernel_rfl) .acquire (by kernel_rfl) a w
theorem releaseMerge (a : Addr) (w : World) : (callFunc 146 #[.pointer (some a)]).run Tryz.prog w = .ok (.value (.tuple #[])) w := run_call_marked Tryz.func146 (by kernel_rfl) (by kernel_rfl) (by kernel_rfl) .releaseMerge (by kernel_rfl) a w
set_option maxHeartbeats 4000000 in
set_option maxRecDepth 1000000 in
theorem store_deferred (a : Addr) (x : Value) (u : FrameMode) (w : World) (hc : w.cell? a = some x) (hz : w.frozen? a = false) :
  CallsD Tryz.prog 132 #[.pointer (some a), .bool true] u w fun e u' w' => u' = u ∧ (e = .returned (.tuple #[]) ∧ w' = w.drew.setCell a (.int .u32 1)) := by
 have hc' : w.drew.cell? a = some x := by go_simp
 have hz' : w.drew.frozen? a = false := by go_simp
 have hst := run_call_store (P := Tryz.prog) Tryz.func137 (by kernel_rfl) (by kernel_rfl) (by kernel_rfl) (by kernel_rfl) (k := .u32) (y := 1) hc' hz'
 go_enter_d Tryz.func132, Tryz.ntmps132
 go_wp2
 go_region_calls
 all_goals (go_end0; exact ⟨rfl, rfl⟩)
set_option maxHeartbeats 4000000 in
set_option maxRecDepth 1000000 in
theorem unlock_deferred (a : Addr) (u : FrameMode) (w : World) (hc : w.cell? a = some (.int .i32 1)) (hz : w.frozen? a = false) :
  CallsD Tryz.prog 131 #[.pointer (some a)] u w fun e u' w' => u' = u ∧ (e = .returned (.tuple #[]) ∧ w' = w.setCell a (.int .i32 0)) := by
 have hd := disable
 have he := enable
 have hr := releaseMerge
 have hadd := run_call_add (P := Tryz.prog) Tryz.func147 (by kernel_rfl) (by kernel_rfl) (by kernel_rfl) .i32 (by kernel_rfl) (y := -1) (s := 0) hc hz (by simp [go_sem]; rfl)
 have hcv := run_convert_to_unsafe (P := Tryz.prog) (src := 192) (dst := 158) Tryz.underlying192 Tryz.underlying158 (by kernel_rfl) hc
 go_enter_d Tryz.func131, Tryz.ntmps131
 go_wp2
 go_end0
 go_wp2
 go_end0
 exact ⟨rfl, rfl⟩
set_option maxHeartbeats 4000000 in
set_option maxRecDepth 1000000 in
theorem lock_free (a : Addr) (w : World) (hc : w.cell? a = some (.int .i32 0)) (hz : w.frozen? a = false) :
  Calls Tryz.prog 130 #[.pointer (some a)] w fun e w' => e = .returned (.tuple #[]) ∧ w' = w.setCell a (.int .i32 1) := by
 have hd := disable
 have he := enable
 have ha := acquire
 have hcas := run_call_cas_hit (P := Tryz.prog) Tryz.func142 (by kernel_rfl) (by kernel_rfl) (by kernel_rfl) .i32 (by kernel_rfl) (y := 1) hc hz
 have hc' : (w.setCell a (.int .i32 1)).cell? a = some (.int .i32 1) := World.cell?_setCell_same w a _ hc
 have hcv := run_convert_to_unsafe (P := Tryz.prog) (src := 192) (dst := 158) Tryz.underlying192 Tryz.underlying158 (by kernel_rfl) hc'
 go_enter Tryz.func130, Tryz.ntmps130
 go_wp2
 first | go_end0 | (simp only [Exit.inBlock, Exit.then]; refine bodyPost_ret (results_none rfl _ _ _) rfl ?_) | refine bodyPost_ret (results_none rfl _ _ _) rfl ?_
 go_wp2
 go_end0
 exact ⟨rfl, rfl⟩
end Go.Proofs.YtnfanpjfhdlddaaGreatDoor.Pr
end
section
set_option linter.unusedVariables false
set_option linter.unusedSimpArgs false
namespace Go.Proofs.YtnfanpjfhdlddaaGreatDoor.Pr
open Go.Proofs.YtnfanpjfhdlddaaGreatDoorW.PrintWords
theorem bcell {w : World} {g : Nat} {cs : Array Value} {t : TypeId} (h : w.heap[g]? = some (.cells cs t (0, 0))) (i : Nat) : w.cell? ⟨g, i, none⟩ = cs[i]? := blk_cell h i
set_option maxRecDepth 1000000 in
set_option maxHeartbeats 4000000 in
theorem slow_any (g : Nat) (x3 x4 y3 y4 : Value) (w : World) (R : World → Prop) (hb : w.heap[g]? = some (.cells #[.int .u32 0, .int .i32 0, .int .u32 0, x3, x4] 144 (0, 0)))
  (hF : Calls Tryz.prog 106 #[.pointer (some ⟨g, 0, none⟩)] (w.setCell ⟨g, 1, none⟩ (.int .i32 1)) fun e w' => e = .returned (.tuple #[]) ∧ w'.heap[g]? = some (.cells #[.int .u32 0, .int .i32 1, .int .u32 0, y3, y4] 144 (0, 0)) ∧ R w')
  (hR : ∀ W j u, R W → R (W.setCell ⟨g, j, none⟩ u)) (hD : ∀ W, R W → R W.drew) :
  Calls Tryz.prog 121 #[.pointer (some ⟨g, 0, none⟩), .func (.func 106) #[.pointer (some ⟨g, 0, none⟩)] #[]] w fun e w' => e = .returned (.tuple #[]) ∧
   w'.heap[g]? = some (.cells #[.int .u32 1, .int .i32 0, .int .u32 0, y3, y4] 144 (0, 0)) ∧ R w' := by
 have h0 : w.cell? ⟨g, 0, none⟩ = some (.int .u32 0) := bcell hb 0
 have h1 : w.cell? ⟨g, 1, none⟩ = some (.int .i32 0) := bcell hb 1
 have f1 : w.frozen? ⟨g, 1, none⟩ = false := blk_frozen hb 1
 have hl := run_call_load (P := Tryz.prog) Tryz.func129 (by kernel_rfl) (by kernel_rfl) (by kernel_rfl) .u32 (by kernel_rfl) (w := w.setCell ⟨g, 1, none⟩ (.int .i32 1)) (a := ⟨g, 0, none⟩) (x := 0) ((World.cell?_setCell_other _ ⟨g, 1, none⟩ ⟨g, 0, none⟩ _ (by simp)).trans h0)
 have hnot : ∀ (x : Bool) (w : World), (Op.unary .not (.bool x)).run Tryz.prog w = .ok (.bool (!x)) w := fun _ _ => rfl
 have HF := Aside0.mk hF
 have HR := Aside0.mk hR
 have HD := Aside0.mk hD
 clear hF hb hR hD
 go_enter_defers Tryz.func121, Tryz.ntmps121
 go_wp2_with (go_at_call 130; refine (lock_free ⟨g, 1, none⟩ _ (by go_simp) (by go_simp)).mono ?_; rintro e w' ⟨rfl, rfl⟩)
 go_wp2_with (first | (go_at_call 106; refine HF.out.mono ?_; rintro e w1 ⟨rfl, hb1, hr1⟩; have HB1 := Aside0.mk hb1; have HR1 := Aside0.mk hr1; clear hb1 hr1) | (go_at_call 120; go_in))
 have k0 : w1.cell? ⟨g, 0, none⟩ = some (.int .u32 0) := bcell HB1.out 0
 have k1 : w1.cell? ⟨g, 1, none⟩ = some (.int .i32 1) := bcell HB1.out 1
 have z0 : w1.frozen? ⟨g, 0, none⟩ = false := blk_frozen HB1.out 0
 have z1 : w1.frozen? ⟨g, 1, none⟩ = false := blk_frozen HB1.out 1
 have HBd : w1.drew.heap[g]? = _ := HB1.out
 have B1 := blk_set HBd 0 (.int .u32 1)
 have B2 := blk_set B1 1 (.int .i32 0)
 refine leaves_cons (f := 132) (args := #[.pointer (some ⟨g, 0, none⟩), .bool true]) (by simp) (by simp [go_sem]) ?_
 refine (store_deferred ⟨g, 0, none⟩ (.int .u32 0) _ _ k0 z0).mono ?_
 rintro e u' w'' ⟨rfl, rfl, rfl⟩
 refine leaves_cons (f := 131) (args := #[.pointer (some ⟨g, 1, none⟩)]) (by simp [settle]) (by simp [go_sem]) ?_
 refine (unlock_deferred ⟨g, 1, none⟩ _ _ (bcell B1 1) (blk_frozen B1 1)).mono ?_
 rintro e u' w'' ⟨rfl, rfl, rfl⟩
 simp [Leaves, settle, results, Tryz.results121]
 exact ⟨B2, HR.out _ _ _ (HR.out _ _ _ (HD.out _ HR1.out))⟩
end Go.Proofs.YtnfanpjfhdlddaaGreatDoor.Pr
end
section
set_option linter.unusedVariables false
set_option linter.unusedSimpArgs false
namespace Go.Proofs.YtnfanpjfhdlddaaGreatDoor.Pr
open Go.RowKit Go.Proofs.YtnfanpjfhdlddaaGreatDoorW.PrintWords Go.Proofs.YtnfanpjfhdlddaaGreatDoorW.PrintLast Go.Proofs.YtnfanpjfhdlddaaGreatDoorW.PrintMore
theorem lt_of_cell {w : World} {g i : Nat} {v : Value} (h : w.cell? ⟨g, i, none⟩ = some v) : g < w.heap.size := by
 rcases Nat.lt_or_ge g w.heap.size with h' | h'
 ·
  exact h'
 ·
  simp [World.cell?, Array.getElem?_eq_none h'] at h
theorem alloc_size (w : World) (o : Obj) : w.heap.size + 1 = (w.alloc o).heap.size := (Array.size_push _).symm
theorem one_back (b : UInt8) (W : World) : (convert 108 9 (.slice (some ⟨W.heap.size, 0, none⟩) 1 1)).run Tryz.prog (W.alloc (.cells #[.int .u8 (b.toNat : Int)] 5)) = .ok (.string ⟨#[b]⟩) (W.alloc (.cells #[.int .u8 (b.toNat : Int)] 5)) :=
 run_convert_bytes_back (P := Tryz.prog) (W.alloc (.cells #[.int .u8 (b.toNat : Int)] 5)) 108 9 5 ⟨W.heap.size, 0, none⟩ 1 [b] Tryz.underlying108 Tryz.underlying5 Tryz.underlying9 (fun j hj => by
  have : j = 0 := by simp at hj; omega
  subst this
  exact World.cell?_alloc_at _ _ _ _ rfl)
theorem make3 (W : World) : (Instr.makeSlice 34 (.int .i64 0) (.int .i64 3)).run Tryz.prog W = .ok (.slice (some ⟨W.heap.size, 0, none⟩) 0 3) (W.alloc (.cells #[.string ⟨#[]⟩, .string ⟨#[]⟩, .string ⟨#[]⟩] 9)) :=
 by
 have hi : (Tryz.prog.info? 9).map (fun i => (i.zero, i.size, i.bytes)) = some (some (.string ⟨#[]⟩), 1, 16) := by kernel_rfl
 cases h : Tryz.prog.info? 9 with
 | none => simp [h] at hi
 | some i =>
  simp [h] at hi
  have := run_make (P := Tryz.prog) W 34 9 i (.string ⟨#[]⟩) Tryz.underlying34 h hi.1 .i64 .i64 0 3 (by omega) (by omega) (by rw [hi.2.2]; decide) (by omega)
  rw [hi.2.1] at this
  have e : madeCells (Value.string ⟨#[]⟩).cells (Int.toNat 3 * 1) = #[.string ⟨#[]⟩, .string ⟨#[]⟩, .string ⟨#[]⟩] := by kernel_rfl
  rw [e] at this
  exact this
def bw (W : World) (s : ByteArray) : World := W.drew.alloc (.cells (bytesRow s (grownCap W s.size 0 5)) 5 ((bytesRow s (grownCap W s.size 0 5)).size, (bytesRow s (grownCap W s.size 0 5)).size + 1))
theorem bw_size (W : World) (s : ByteArray) : (bw W s).heap.size = W.heap.size + 1 := (alloc_size W.drew _).symm
theorem bw_run (W : World) (s : ByteArray) : (convert 9 108 (.string s)).run Tryz.prog W = .ok (.slice (some ⟨W.heap.size, 0, none⟩) s.size (grownCap W s.size 0 5)) (bw W s) :=
 run_bytes_of_string W 9 108 5 s Tryz.underlying9 Tryz.underlying108 Tryz.underlying5
theorem bw_old (W : World) (s : ByteArray) (n i : Nat) (h : n < W.heap.size) : (bw W s).cell? ⟨n, i, none⟩ = W.cell? ⟨n, i, none⟩ := by
 have : (bw W s).heap[n]? = W.heap[n]? := by
  show (W.heap.push _)[n]? = _
  rw [Array.getElem?_push, if_neg (by omega)]
 simp only [World.cell?, this]
theorem bw_oldF (W : World) (s : ByteArray) (n i : Nat) (h : n < W.heap.size) : (bw W s).frozen? ⟨n, i, none⟩ = W.frozen? ⟨n, i, none⟩ := by
 have : (bw W s).heap[n]? = W.heap[n]? := by
  show (W.heap.push _)[n]? = _
  rw [Array.getElem?_push, if_neg (by omega)]
 simp only [World.frozen?, this]
theorem bw_below {k : Nat} {w W : World} (s : ByteArray) (h : Below k w W) (hk : k ≤ W.heap.size) : Below k w (bw W s) := h.drew.alloc hk _
def repl : Option (Nat × Nat) → Value
  | none => .slice none 0 0
  | some (g, c) => .slice (some ⟨g, 0, none⟩) 2 c
def rlies (w w' : World) (k : Nat) : Option (Nat × Nat) → Prop
  | none => True
  | some (g, c) => w.heap.size + 1 < g ∧ g < w'.heap.size ∧ 2 ≤ c ∧ w'.cell? ⟨g, 0, none⟩ = some (.int .u8 92) ∧ w'.cell? ⟨g, 1, none⟩ = some (.int .u8 (k : Int))
structure Bs (w : World) (a b c : Option (Nat × Nat)) (n : Nat) (x y z : ByteArray) (w' : World) : Prop where
  lt : w.heap.size + 1 < w'.heap.size
  bel : Below w.heap.size w w'
  H : ∃ ch, w'.heap[w.heap.size + 1]? = some (.cells ch 176 (0, 0)) ∧ ch.size = 257 ∧ ch[10]? = some (repl a) ∧ ch[92]? = some (repl b) ∧ ch[34]? = some (repl c) ∧
    ch[256]? = some (.slice (some ⟨w.heap.size, 0, none⟩) n 3) ∧ ∀ i, i < 256 → i ≠ 10 → i ≠ 92 → i ≠ 34 → ch[i]? = some (.slice none 0 0)
  T : w'.heap[w.heap.size]? = some (.cells #[.string x, .string y, .string z] 9 (0, 0))
  A : rlies w w' 110 a
  B : rlies w w' 92 b
  C : rlies w w' 34 c
theorem rlies_step {w w1 w2 : World} {k : Nat} (h1 : w1.heap.size ≤ w2.heap.size) (h2 : ∀ g, w.heap.size + 1 < g → g < w1.heap.size → w2.heap[g]? = w1.heap[g]?) : ∀ {a : Option (Nat × Nat)}, rlies w w1 k a → rlies w w2 k a
 | none, _ => trivial
 | some (g, c), ⟨a1, a2, a3, a4, a5⟩ => ⟨a1, by omega, a3, (World.cell?_of_block (w := w1) (h2 g a1 a2)).trans a4, (World.cell?_of_block (w := w1) (h2 g a1 a2)).trans a5⟩
section
variable {w w1 : World} {a b c : Option (Nat × Nat)} {n : Nat} {x y z : ByteArray}
theorem Bs.far {w2 : World} (h : Bs w a b c n x y z w1) (hs : w1.heap.size ≤ w2.heap.size) (hb : Below w.heap.size w w2) (hk : ∀ k, k < w1.heap.size → w2.heap[k]? = w1.heap[k]?) : Bs w a b c n x y z w2 := by
 have hlt := h.lt
 obtain ⟨ch, e, r⟩ := h.H
 exact ⟨by omega, hb, ⟨ch, (hk _ hlt).trans e, r⟩, (hk _ (by omega)).trans h.T, rlies_step hs (fun g _ hg => hk g hg) h.A, rlies_step hs (fun g _ hg => hk g hg) h.B, rlies_step hs (fun g _ hg => hk g hg) h.C⟩
theorem Bs.alloc (h : Bs w a b c n x y z w1) (o : Obj) : Bs w a b c n x y z (w1.alloc o) :=
 h.far (by rw [← alloc_size]; omega) (h.bel.alloc (by have := h.lt; omega) _) fun k hk => Below.heap_alloc _ _ _ hk
theorem Bs.bytes (h : Bs w a b c n x y z w1) (s : ByteArray) : Bs w a b c n x y z (bw w1 s) :=
 h.far (by rw [bw_size]; omega) (bw_below _ h.bel (by have := h.lt; omega)) fun k hk => Below.heap_alloc w1.drew _ _ hk
theorem Bs.setH (h : Bs w a b c n x y z w1) (i : Nat) (u : Value) {a' b' c' : Option (Nat × Nat)} {n' : Nat}
  (hA : rlies w w1 110 a') (hB : rlies w w1 92 b') (hC : rlies w w1 34 c')
  (hi : ∀ ch : Array Value, ch.size = 257 → ch[10]? = some (repl a) → ch[92]? = some (repl b) → ch[34]? = some (repl c) → ch[256]? = some (.slice (some ⟨w.heap.size, 0, none⟩) n 3) →
   (ch.setIfInBounds i u)[10]? = some (repl a') ∧ (ch.setIfInBounds i u)[92]? = some (repl b') ∧ (ch.setIfInBounds i u)[34]? = some (repl c') ∧ (ch.setIfInBounds i u)[256]? = some (.slice (some ⟨w.heap.size, 0, none⟩) n' 3))
  (hi2 : i = 10 ∨ i = 92 ∨ i = 34 ∨ i = 256) : Bs w a' b' c' n' x y z (w1.setCell ⟨w.heap.size + 1, i, none⟩ u) := by
 have hlt := h.lt
 obtain ⟨ch, e, e1, e2, e3, e4, e5, e6⟩ := h.H
 have hf : ∀ g, w.heap.size + 1 < g → g < w1.heap.size → (w1.setCell ⟨w.heap.size + 1, i, none⟩ u).heap[g]? = w1.heap[g]? := fun g hg _ => Below.heap_setCell _ _ _ _ (by show g ≠ w.heap.size + 1; omega)
 have hs : w1.heap.size ≤ (w1.setCell ⟨w.heap.size + 1, i, none⟩ u).heap.size := by simp
 obtain ⟨k1, k2, k3, k4⟩ := hi ch e1 e2 e3 e4 e5
 refine ⟨by omega, h.bel.setCell (by show _ ≤ w.heap.size + 1; omega) _, ⟨_, blk_set e i u, by rw [Array.size_setIfInBounds]; exact e1, k1, k2, k3, k4, fun j j1 j2 j3 j4 => ?_⟩, (Below.heap_setCell _ _ _ _ (by show w.heap.size ≠ w.heap.size + 1; omega)).trans h.T, rlies_step hs hf hA, rlies_step hs hf hB, rlies_step hs hf hC⟩
 rw [Array.getElem?_setIfInBounds_ne (by omega)]
 exact e6 j j1 j2 j3 j4
theorem Bs.setT (h : Bs w a b c n x y z w1) {x' y' z' : ByteArray} : Bs w a b c n x' y' z' (w1.setRow w.heap.size #[.string x', .string y', .string z']) := by
 have hlt := h.lt
 obtain ⟨ch, e, r⟩ := h.H
 have hs : w1.heap.size ≤ (w1.setRow w.heap.size #[.string x', .string y', .string z']).heap.size := by simp
 have hf : ∀ g, w.heap.size + 1 < g → g < w1.heap.size → (w1.setRow w.heap.size #[.string x', .string y', .string z']).heap[g]? = w1.heap[g]? := fun g hg _ => setRow_other _ _ _ _ (by omega)
 exact ⟨by omega, ⟨h.bel.os, h.bel.tape, h.bel.output, Nat.le_trans h.bel.size hs, fun k hk => (setRow_other _ _ _ _ (by omega)).trans (h.bel.block k hk)⟩, ⟨ch, (setRow_other _ _ _ _ (by omega)).trans e, r⟩, setRow_heap _ _ _ _ _ _ h.T, rlies_step hs hf h.A, rlies_step hs hf h.B, rlies_step hs hf h.C⟩
end
theorem bw_new (W : World) (s : ByteArray) (i : Nat) : (bw W s).cell? ⟨W.heap.size, i, none⟩ = (bytesRow s (grownCap W s.size 0 5))[i]? :=
 cell_of_row _ _ _ _ _ _ (heap_alloc_new W.drew _)
theorem rlies_new (w W : World) (k : UInt8) (h : w.heap.size + 1 < W.heap.size) : rlies w (bw W ⟨#[92, k]⟩) k.toNat (some (W.heap.size, grownCap W 2 0 5)) :=
 ⟨h, by rw [bw_size]; omega, grownCap_ge _ _ _ _, (bw_new _ _ _).trans (by unfold bytesRow; rw [Array.getElem?_append_left (by simp)]; first | (simp; done) | (simp; rfl)), (bw_new _ _ _).trans (by unfold bytesRow; rw [Array.getElem?_append_left (by simp)]; first | (simp; done) | (simp; rfl))⟩
theorem Bs.repA {w w1 : World} {a b c : Option (Nat × Nat)} {n : Nat} {x y z : ByteArray} (h : Bs w a b c n x y z w1) (m : Nat) :
  Bs w (some (w1.heap.size, grownCap (w1.setCell ⟨w.heap.size + 1, 256, none⟩ (.slice (some ⟨w.heap.size, 0, none⟩) m 3)) 2 0 5)) b c m x y z ((bw (w1.setCell ⟨w.heap.size + 1, 256, none⟩ (.slice (some ⟨w.heap.size, 0, none⟩) m 3)) ⟨#[92, 110]⟩).setCell ⟨w.heap.size + 1, 10, none⟩ (.slice (some ⟨w1.heap.size, 0, none⟩) 2 (grownCap (w1.setCell ⟨w.heap.size + 1, 256, none⟩ (.slice (some ⟨w.heap.size, 0, none⟩) m 3)) 2 0 5))) := by
 have h1 : Bs w a b c m x y z (w1.setCell ⟨w.heap.size + 1, 256, none⟩ (.slice (some ⟨w.heap.size, 0, none⟩) m 3)) :=
  h.setH 256 _ h.A h.B h.C (fun ch e1 e2 e3 e4 e5 => ⟨by rw [Array.getElem?_setIfInBounds_ne (by decide)]; exact e2, by rw [Array.getElem?_setIfInBounds_ne (by decide)]; exact e3, by rw [Array.getElem?_setIfInBounds_ne (by decide)]; exact e4, by rw [Array.getElem?_setIfInBounds_self_of_lt (by omega)]⟩) (by omega)
 have h2 := h1.bytes ⟨#[92, 110]⟩
 have hsz : (w1.setCell ⟨w.heap.size + 1, 256, none⟩ (.slice (some ⟨w.heap.size, 0, none⟩) m 3)).heap.size = w1.heap.size := by simp
 have hn := rlies_new w (w1.setCell ⟨w.heap.size + 1, 256, none⟩ (.slice (some ⟨w.heap.size, 0, none⟩) m 3)) 110 h1.lt
 rw [hsz] at hn
 exact h2.setH 10 _ hn h2.B h2.C (fun ch e1 e2 e3 e4 e5 => ⟨by rw [Array.getElem?_setIfInBounds_self_of_lt (by omega)]; rfl, by rw [Array.getElem?_setIfInBounds_ne (by decide)]; exact e3, by rw [Array.getElem?_setIfInBounds_ne (by decide)]; exact e4, by rw [Array.getElem?_setIfInBounds_ne (by decide)]; exact e5⟩) (by omega)
theorem Bs.repB {w w1 : World} {a b c : Option (Nat × Nat)} {n : Nat} {x y z : ByteArray} (h : Bs w a b c n x y z w1) (m : Nat) :
  Bs w a (some (w1.heap.size, grownCap (w1.setCell ⟨w.heap.size + 1, 256, none⟩ (.slice (some ⟨w.heap.size, 0, none⟩) m 3)) 2 0 5)) c m x y z ((bw (w1.setCell ⟨w.heap.size + 1, 256, none⟩ (.slice (some ⟨w.heap.size, 0, none⟩) m 3)) ⟨#[92, 92]⟩).setCell ⟨w.heap.size + 1, 92, none⟩ (.slice (some ⟨w1.heap.size, 0, none⟩) 2 (grownCap (w1.setCell ⟨w.heap.size + 1, 256, none⟩ (.slice (some ⟨w.heap.size, 0, none⟩) m 3)) 2 0 5))) := by
 have h1 : Bs w a b c m x y z (w1.setCell ⟨w.heap.size + 1, 256, none⟩ (.slice (some ⟨w.heap.size, 0, none⟩) m 3)) :=
  h.setH 256 _ h.A h.B h.C (fun ch e1 e2 e3 e4 e5 => ⟨by rw [Array.getElem?_setIfInBounds_ne (by decide)]; exact e2, by rw [Array.getElem?_setIfInBounds_ne (by decide)]; exact e3, by rw [Array.getElem?_setIfInBounds_ne (by decide)]; exact e4, by rw [Array.getElem?_setIfInBounds_self_of_lt (by omega)]⟩) (by omega)
 have h2 := h1.bytes ⟨#[92, 92]⟩
 have hsz : (w1.setCell ⟨w.heap.size + 1, 256, none⟩ (.slice (some ⟨w.heap.size, 0, none⟩) m 3)).heap.size = w1.heap.size := by simp
 have hn := rlies_new w (w1.setCell ⟨w.heap.size + 1, 256, none⟩ (.slice (some ⟨w.heap.size, 0, none⟩) m 3)) 92 h1.lt
 rw [hsz] at hn
 exact h2.setH 92 _ h2.A hn h2.C (fun ch e1 e2 e3 e4 e5 => ⟨by rw [Array.getElem?_setIfInBounds_ne (by decide)]; exact e2, by rw [Array.getElem?_setIfInBounds_self_of_lt (by omega)]; rfl, by rw [Array.getElem?_setIfInBounds_ne (by decide)]; exact e4, by rw [Array.getElem?_setIfInBounds_ne (by decide)]; exact e5⟩) (by omega)
theorem Bs.repC {w w1 : World} {a b c : Option (Nat × Nat)} {n : Nat} {x y z : ByteArray} (h : Bs w a b c n x y z w1) (m : Nat) :
  Bs w a b (some (w1.heap.size, grownCap (w1.setCell ⟨w.heap.size + 1, 256, none⟩ (.slice (some ⟨w.heap.size, 0, none⟩) m 3)) 2 0 5)) m x y z ((bw (w1.setCell ⟨w.heap.size + 1, 256, none⟩ (.slice (some ⟨w.heap.size, 0, none⟩) m 3)) ⟨#[92, 34]⟩).setCell ⟨w.heap.size + 1, 34, none⟩ (.slice (some ⟨w1.heap.size, 0, none⟩) 2 (grownCap (w1.setCell ⟨w.heap.size + 1, 256, none⟩ (.slice (some ⟨w.heap.size, 0, none⟩) m 3)) 2 0 5))) := by
 have h1 : Bs w a b c m x y z (w1.setCell ⟨w.heap.size + 1, 256, none⟩ (.slice (some ⟨w.heap.size, 0, none⟩) m 3)) :=
  h.setH 256 _ h.A h.B h.C (fun ch e1 e2 e3 e4 e5 => ⟨by rw [Array.getElem?_setIfInBounds_ne (by decide)]; exact e2, by rw [Array.getElem?_setIfInBounds_ne (by decide)]; exact e3, by rw [Array.getElem?_setIfInBounds_ne (by decide)]; exact e4, by rw [Array.getElem?_setIfInBounds_self_of_lt (by omega)]⟩) (by omega)
 have h2 := h1.bytes ⟨#[92, 34]⟩
 have hsz : (w1.setCell ⟨w.heap.size + 1, 256, none⟩ (.slice (some ⟨w.heap.size, 0, none⟩) m 3)).heap.size = w1.heap.size := by simp
 have hn := rlies_new w (w1.setCell ⟨w.heap.size + 1, 256, none⟩ (.slice (some ⟨w.heap.size, 0, none⟩) m 3)) 34 h1.lt
 rw [hsz] at hn
 exact h2.setH 34 _ h2.A h2.B hn (fun ch e1 e2 e3 e4 e5 => ⟨by rw [Array.getElem?_setIfInBounds_ne (by decide)]; exact e2, by rw [Array.getElem?_setIfInBounds_ne (by decide)]; exact e3, by rw [Array.getElem?_setIfInBounds_self_of_lt (by omega)]; rfl, by rw [Array.getElem?_setIfInBounds_ne (by decide)]; exact e5⟩) (by omega)
theorem app_run {W : World} {T n : Nat} {cur : Array Value} (hT : W.heap[T]? = some (.cells cur 9 (0, 0))) (hs : cur.size = 3) (hn : n + 1 ≤ 3) (g : Nat) (s : ByteArray) (hg : W.cell? ⟨g, 0, none⟩ = some (.string s)) (ty : TypeId) :
  (Builtin.append_ #[34, 34] ty #[.slice (some ⟨T, 0, none⟩) n 3, .slice (some ⟨g, 0, none⟩) 1 1]).run Tryz.prog W = .ok (.slice (some ⟨T, 0, none⟩) (n + 1) 3) (W.setRow T (cur.toList.take n ++ [Value.string s] ++ cur.toList.drop (n + 1)).toArray) := by
 have hi : (Tryz.prog.info? 9).map (fun i => i.size) = some 1 := by kernel_rfl
 cases h : Tryz.prog.info? 9 with
 | none => simp [h] at hi
 | some i =>
  have hi : i.size = 1 := by simpa [h] using hi
  have := run_append_room (P := Tryz.prog) (w := W) 34 ty 9 i Tryz.underlying34 h T n 3 cur hT ⟨g, 0, none⟩ 1 1 [.string s] (by simp [hi]) (fun j u hj => by
   rcases j with _ | j
   ·
    simp at hj; subst hj; exact hg
   ·
    simp at hj) (by simp [Value.oneCell']) (by omega) (by simp [hi, hs]; omega)
  simpa [hi] using this
theorem wpList_append_run {P : Program} {ops : Array Oper} {rest : List Oper} {o : Oper} {a : Act} {w : World} {Q : Exit → Act → World → Prop} (hgd : o.guard = none) (s x : Operand) (t : TypeId)
  (ho : o.op = .call { callee := .builtin .append, args := #[s, x], argTypes := #[t, t] }) (v1 v2 : Value) (hs : a.eval s = v1) (hx : a.eval x = v2) (v' : Value) (w' : World)
  (hr : ∀ ty, (Builtin.append_ #[t, t] ty #[v1, v2]).run P w = .ok v' w') (Φ : World → Prop) (hΦ : Φ w') (h : ∀ w', Φ w' → wpList P ops Q rest (a.put o.dst v') w') : wpList P ops Q (o :: rest) a w := by
 refine wpList_plain hgd fun _ hK => ?_
 unfold Oper.wp execOp
 simp only [ho, resolve, invoke, builtin, Sem.run_bind, Sem.run_pure, Result.andThen_ok, List.map_toArray, List.map_cons, List.map_nil, hs, hx, hr]
 exact hK _ _ (h w' hΦ)
structure StopAt (p : Prop) : Prop where
  out : p
theorem rounds_gen {P : Program} {c : Code} {Q : Exit → Act → World → Prop} {n : Nat} {a : Act} {w : World} {Φ : World → Prop} (h : Φ w) (k : ∀ w', Φ w' → Code.rounds P c Q n a w') : Code.rounds P c Q n a w := k w h
set_option maxRecDepth 1000000 in
set_option maxHeartbeats 4000000 in
theorem build_any (g q c : Nat) (w : World) (hg : w.heap[g]? = some (.cells #[.int .u32 0, .int .i32 1, .int .u32 0, Value.nilIface, .slice (some ⟨q, 0, none⟩) 6 c] 144 (0, 0)))
  (q0 : w.cell? ⟨q, 0, none⟩ = some (.string ⟨#[34]⟩)) (q1 : w.cell? ⟨q, 1, none⟩ = some (.string ⟨#[92, 34]⟩))
  (q2 : w.cell? ⟨q, 2, none⟩ = some (.string ⟨#[92]⟩)) (q3 : w.cell? ⟨q, 3, none⟩ = some (.string ⟨#[92, 92]⟩))
  (q4 : w.cell? ⟨q, 4, none⟩ = some (.string ⟨#[10]⟩)) (q5 : w.cell? ⟨q, 5, none⟩ = some (.string ⟨#[92, 110]⟩)) :
  Calls Tryz.prog 122 #[.pointer (some ⟨g, 0, none⟩)] w fun e w' => e = .returned (.iface 177 (.pointer (some ⟨w.heap.size + 1, 0, none⟩))) ∧ ∃ gA gB gC, Bs w (some gA) (some gB) (some gC) 3 ⟨#[10]⟩ ⟨#[92]⟩ ⟨#[34]⟩ w' := by
 have h4 : w.cell? ⟨g, 4, none⟩ = some (.slice (some ⟨q, 0, none⟩) 6 c) := blk_cell hg 4
 have b0 : ∀ h, (((⟨#[34]⟩ : ByteArray)[0]'h).toNat : Int) = 34 := fun _ => rfl
 have b1 : ∀ h, (((⟨#[92]⟩ : ByteArray)[0]'h).toNat : Int) = 92 := fun _ => rfl
 have b2 : ∀ h, (((⟨#[10]⟩ : ByteArray)[0]'h).toNat : Int) = 10 := fun _ => rfl
 have s0 : (⟨#[34]⟩ : ByteArray).size = 1 := rfl
 have s1 : (⟨#[92, 34]⟩ : ByteArray).size = 2 := rfl
 have s2 : (⟨#[92]⟩ : ByteArray).size = 1 := rfl
 have s3 : (⟨#[92, 92]⟩ : ByteArray).size = 2 := rfl
 have s4 : (⟨#[10]⟩ : ByteArray).size = 1 := rfl
 have s5 : (⟨#[92, 110]⟩ : ByteArray).size = 2 := rfl
 have mk3 := make3
 have hz176 : Tryz.zeroCells176.size = 257 := by kernel_rfl
 have hnil : ∀ (a : Option Addr) (l c : Nat) (W : World), (binOp .eql 108 (.slice a l c) (.slice none 0 0)).run Tryz.prog W = .ok (.bool a.isNone) W := fun a l c W => by
  unfold binOp
  simp [Op.equal, Op.maxDepth, Lib.run_equalIn_slice_nil W 9999 108 5 a l c 0 0 Tryz.underlying108]
 have cv0 : ∀ W : World, (convert 108 9 (.slice (some ⟨W.heap.size, 0, none⟩) 1 1)).run Tryz.prog (W.alloc (.cells #[.int .u8 34] 5)) = .ok (.string ⟨#[34]⟩) (W.alloc (.cells #[.int .u8 34] 5)) := one_back 34
 have cv1 : ∀ W : World, (convert 108 9 (.slice (some ⟨W.heap.size, 0, none⟩) 1 1)).run Tryz.prog (W.alloc (.cells #[.int .u8 92] 5)) = .ok (.string ⟨#[92]⟩) (W.alloc (.cells #[.int .u8 92] 5)) := one_back 92
 have cv2 : ∀ W : World, (convert 108 9 (.slice (some ⟨W.heap.size, 0, none⟩) 1 1)).run Tryz.prog (W.alloc (.cells #[.int .u8 10] 5)) = .ok (.string ⟨#[10]⟩) (W.alloc (.cells #[.int .u8 10] 5)) := one_back 10
 have hbw := bw_run
 have hqlt : q < w.heap.size := lt_of_cell q0
 obtain ⟨cz, hcz⟩ : ∃ c, c = Tryz.zeroCells176.setIfInBounds 256 (.slice (some ⟨w.heap.size, 0, none⟩) 0 3) := ⟨_, rfl⟩
 obtain ⟨w1, hw1⟩ : ∃ x, x = (w.alloc (.cells #[.string ⟨#[]⟩, .string ⟨#[]⟩, .string ⟨#[]⟩] 9)).alloc (.cells cz 176) := ⟨_, rfl⟩
 have hst : Sem.run Tryz.prog (storeCells ⟨w.heap.size + 1, 0, none⟩ (Tryz.zeroCells176.toList.set 256 (.slice (some ⟨w.heap.size, 0, none⟩) 0 3))) ((w.alloc (.cells #[.string ⟨#[]⟩, .string ⟨#[]⟩, .string ⟨#[]⟩] 9)).alloc (.cells Tryz.zeroCells176 176)) = .ok () w1 := by
  have := run_storeCells_new (P := Tryz.prog) (w.alloc (.cells #[.string ⟨#[]⟩, .string ⟨#[]⟩, .string ⟨#[]⟩] 9)) 176 Tryz.zeroCells176 cz (by subst hcz; rw [Array.size_setIfInBounds]; kernel_rfl) (by subst hcz; rw [Array.size_setIfInBounds]) (by subst hcz; kernel_rfl)
  rw [hw1, ← this, hcz, Array.toList_setIfInBounds]
  rw [← alloc_size]
 have hs1 : w1.heap.size = w.heap.size + 2 := by subst hw1; rw [← alloc_size, ← alloc_size]
 have B1 : Bs w none none none 0 ⟨#[]⟩ ⟨#[]⟩ ⟨#[]⟩ w1 := by
  refine ⟨by omega, ?_, ⟨cz, ?_, ?_, ?_, ?_, ?_, ?_, ?_⟩, ?_, trivial, trivial, trivial⟩
  ·
   subst hw1; exact ((Below.refl _ _).alloc (Nat.le_refl _) _).alloc (by rw [← alloc_size]; omega) _
  ·
   subst hw1; rw [alloc_size]; exact heap_alloc_new _ _
  ·
   subst hcz; rw [Array.size_setIfInBounds, hz176]
  ·
   subst hcz; rw [Array.getElem?_setIfInBounds_ne (by decide)]; kernel_rfl
  ·
   subst hcz; rw [Array.getElem?_setIfInBounds_ne (by decide)]; kernel_rfl
  ·
   subst hcz; rw [Array.getElem?_setIfInBounds_ne (by decide)]; kernel_rfl
  ·
   subst hcz; rw [Array.getElem?_setIfInBounds_self_of_lt (by rw [hz176]; omega)]
  ·
   intro i i1 i2 i3 i4
   subst hcz; rw [Array.getElem?_setIfInBounds_ne (by omega)]
   have hall : (List.range 256).all (fun i => match Tryz.zeroCells176[i]? with | some (.slice none 0 0) => true | _ => false) = true := by kernel_rfl
   have := List.all_eq_true.1 hall i (List.mem_range.2 i1)
   split at this
   ·
    assumption
   ·
    exact absurd this (by simp)
  ·
   subst hw1; exact (Below.heap_alloc _ _ _ (by rw [← alloc_size]; omega)).trans (heap_alloc_new _ _)
 have HB1 := Aside0.mk B1
 clear hw1 hcz hs1 B1
 have HG := Aside0.mk hg
 have HB := Aside0.mk (Below.refl w.heap.size w)
 clear hg
 go_enter Tryz.func122, Tryz.ntmps122
 go_wp2_with fail
 refine wp_loop_rounds 4 ?_; rw [rounds_succ]
 go_wp2_with fail
 rw [rounds_succ]
 go_wp2_with fail
 rw [rounds_succ]
 go_wp2_with fail
 rw [rounds_succ]
 go_wp2_with fail
 refine wp_loop_rounds 4 ?_
 refine rounds_gen HB1.out ?_
 rintro v1 B1
 rw [rounds_succ]
 have r0a := (B1.bel.cell (p := ⟨q, 4, none⟩) hqlt).trans q4
 have r0b := (B1.bel.cell (p := ⟨q, 5, none⟩) hqlt).trans q5
 obtain ⟨ch, e, e1, e2, e3, e4, e5, e6⟩ := B1.H
 have cA := (blk_cell e 10).trans e2
 have cT := (blk_cell e 256).trans e5
 have lt1 := B1.lt
 simp only [repl] at cA
 have HB2 := Aside0.mk B1
 clear B1 e e1 e2 e3 e4 e5 e6
 go_wp2_with (at_builtin; refine wpList_append_run rfl (.tmp 119) (.tmp 123) 34 rfl _ _ rfl rfl _ _ (app_run ((HB2.out.alloc _).alloc _).T rfl (by decide) _ ⟨#[10]⟩ (World.cell?_alloc_at _ _ _ _ (alloc_size _ _))) (Bs w none none none 0 ⟨#[10]⟩ ⟨#[]⟩ ⟨#[]⟩) ((HB2.out.alloc _).alloc _).setT ?_; intro w2 B2; apply StopAt.out)
 apply StopAt.mk
 obtain ⟨ch2, e, e1, e2, e3, e4, e5, e6⟩ := B2.H
 have lt2 := B2.lt
 have d10 := (blk_cell e 10).trans e2
 have d256 := (blk_cell e 256).trans e5
 have f10 := blk_frozen e 10
 have f256 := blk_frozen e 256
 have o10 : (bw (w2.setCell ⟨w.heap.size + 1, 256, none⟩ (.slice (some ⟨w.heap.size, 0, none⟩) 1 3)) ⟨#[92, 110]⟩).cell? ⟨w.heap.size + 1, 10, none⟩ = some (repl none) := (bw_old _ _ _ _ (by simp; omega)).trans ((World.cell?_setCell_other _ _ _ _ (by simp)).trans d10)
 have o10f : (bw (w2.setCell ⟨w.heap.size + 1, 256, none⟩ (.slice (some ⟨w.heap.size, 0, none⟩) 1 3)) ⟨#[92, 110]⟩).frozen? ⟨w.heap.size + 1, 10, none⟩ = false := (bw_oldF _ _ _ _ (by simp; omega)).trans (by simp [f10])
 have HB3 := Aside0.mk B2
 clear B2 e e1 e2 e3 e4 e5 e6 HB2 cA cT lt1 r0a r0b
 go_wp2_with fail
 have B4 := HB3.out.repA 1
 refine rounds_gen (Φ := fun v => Bs w (some (w2.heap.size, grownCap (w2.setCell ⟨w.heap.size + 1, 256, none⟩ (.slice (some ⟨w.heap.size, 0, none⟩) 1 3)) 2 0 5)) none none 1 ⟨#[10]⟩ ⟨#[]⟩ ⟨#[]⟩ v) B4 ?_
 clear B4 lt2 d10 d256 f10 f256 o10 o10f HB3
 obtain ⟨gA, hgA⟩ : ∃ g, g = (w2.heap.size, grownCap (w2.setCell ⟨w.heap.size + 1, 256, none⟩ (.slice (some ⟨w.heap.size, 0, none⟩) 1 3)) 2 0 5) := ⟨_, rfl⟩
 rw [← hgA]
 clear hgA
 rintro v2 B1
 rw [rounds_succ]
 have r1a := (B1.bel.cell (p := ⟨q, 2, none⟩) hqlt).trans q2
 have r1b := (B1.bel.cell (p := ⟨q, 3, none⟩) hqlt).trans q3
 obtain ⟨ch, e, e1, e2, e3, e4, e5, e6⟩ := B1.H
 have cA := (blk_cell e 92).trans e3
 have cT := (blk_cell e 256).trans e5
 have lt1 := B1.lt
 simp only [repl] at cA
 have HB2 := Aside0.mk B1
 clear B1 e e1 e2 e3 e4 e5 e6
 go_wp2_with (at_builtin; refine wpList_append_run rfl (.tmp 119) (.tmp 123) 34 rfl _ _ rfl rfl _ _ (app_run ((HB2.out.alloc _).alloc _).T rfl (by decide) _ ⟨#[92]⟩ (World.cell?_alloc_at _ _ _ _ (alloc_size _ _))) (Bs w (some gA) none none 1 ⟨#[10]⟩ ⟨#[92]⟩ ⟨#[]⟩) ((HB2.out.alloc _).alloc _).setT ?_; intro w2 B2; apply StopAt.out)
 apply StopAt.mk
 obtain ⟨ch2, e, e1, e2, e3, e4, e5, e6⟩ := B2.H
 have lt2 := B2.lt
 have d10 := (blk_cell e 92).trans e3
 have d256 := (blk_cell e 256).trans e5
 have f10 := blk_frozen e 92
 have f256 := blk_frozen e 256
 have o10 : (bw (w2.setCell ⟨w.heap.size + 1, 256, none⟩ (.slice (some ⟨w.heap.size, 0, none⟩) 2 3)) ⟨#[92, 92]⟩).cell? ⟨w.heap.size + 1, 92, none⟩ = some (repl none) := (bw_old _ _ _ _ (by simp; omega)).trans ((World.cell?_setCell_other _ _ _ _ (by simp)).trans d10)
 have o10f : (bw (w2.setCell ⟨w.heap.size + 1, 256, none⟩ (.slice (some ⟨w.heap.size, 0, none⟩) 2 3)) ⟨#[92, 92]⟩).frozen? ⟨w.heap.size + 1, 92, none⟩ = false := (bw_oldF _ _ _ _ (by simp; omega)).trans (by simp [f10])
 have HB3 := Aside0.mk B2
 clear B2 e e1 e2 e3 e4 e5 e6 HB2 cA cT lt1 r1a r1b
 go_wp2_with fail
 have B4 := HB3.out.repB 2
 refine rounds_gen (Φ := fun v => Bs w (some gA) (some (w2.heap.size, grownCap (w2.setCell ⟨w.heap.size + 1, 256, none⟩ (.slice (some ⟨w.heap.size, 0, none⟩) 2 3)) 2 0 5)) none 2 ⟨#[10]⟩ ⟨#[92]⟩ ⟨#[]⟩ v) B4 ?_
 clear B4 lt2 d10 d256 f10 f256 o10 o10f HB3
 obtain ⟨gB, hgB⟩ : ∃ g, g = (w2.heap.size, grownCap (w2.setCell ⟨w.heap.size + 1, 256, none⟩ (.slice (some ⟨w.heap.size, 0, none⟩) 2 3)) 2 0 5) := ⟨_, rfl⟩
 rw [← hgB]
 clear hgB
 rintro v3 B1
 rw [rounds_succ]
 have r2a := (B1.bel.cell (p := ⟨q, 0, none⟩) hqlt).trans q0
 have r2b := (B1.bel.cell (p := ⟨q, 1, none⟩) hqlt).trans q1
 obtain ⟨ch, e, e1, e2, e3, e4, e5, e6⟩ := B1.H
 have cA := (blk_cell e 34).trans e4
 have cT := (blk_cell e 256).trans e5
 have lt1 := B1.lt
 simp only [repl] at cA
 have HB2 := Aside0.mk B1
 clear B1 e e1 e2 e3 e4 e5 e6
 go_wp2_with (at_builtin; refine wpList_append_run rfl (.tmp 119) (.tmp 123) 34 rfl _ _ rfl rfl _ _ (app_run ((HB2.out.alloc _).alloc _).T rfl (by decide) _ ⟨#[34]⟩ (World.cell?_alloc_at _ _ _ _ (alloc_size _ _))) (Bs w (some gA) (some gB) none 2 ⟨#[10]⟩ ⟨#[92]⟩ ⟨#[34]⟩) ((HB2.out.alloc _).alloc _).setT ?_; intro w2 B2; apply StopAt.out)
 apply StopAt.mk
 obtain ⟨ch2, e, e1, e2, e3, e4, e5, e6⟩ := B2.H
 have lt2 := B2.lt
 have d10 := (blk_cell e 34).trans e4
 have d256 := (blk_cell e 256).trans e5
 have f10 := blk_frozen e 34
 have f256 := blk_frozen e 256
 have o10 : (bw (w2.setCell ⟨w.heap.size + 1, 256, none⟩ (.slice (some ⟨w.heap.size, 0, none⟩) 3 3)) ⟨#[92, 34]⟩).cell? ⟨w.heap.size + 1, 34, none⟩ = some (repl none) := (bw_old _ _ _ _ (by simp; omega)).trans ((World.cell?_setCell_other _ _ _ _ (by simp)).trans d10)
 have o10f : (bw (w2.setCell ⟨w.heap.size + 1, 256, none⟩ (.slice (some ⟨w.heap.size, 0, none⟩) 3 3)) ⟨#[92, 34]⟩).frozen? ⟨w.heap.size + 1, 34, none⟩ = false := (bw_oldF _ _ _ _ (by simp; omega)).trans (by simp [f10])
 have HB3 := Aside0.mk B2
 clear B2 e e1 e2 e3 e4 e5 e6 HB2 cA cT lt1 r2a r2b
 go_wp2_with fail
 have B4 := HB3.out.repC 3
 refine rounds_gen (Φ := fun v => Bs w (some gA) (some gB) (some (w2.heap.size, grownCap (w2.setCell ⟨w.heap.size + 1, 256, none⟩ (.slice (some ⟨w.heap.size, 0, none⟩) 3 3)) 2 0 5)) 3 ⟨#[10]⟩ ⟨#[92]⟩ ⟨#[34]⟩ v) B4 ?_
 clear B4 lt2 d10 d256 f10 f256 o10 o10f HB3
 obtain ⟨gC, hgC⟩ : ∃ g, g = (w2.heap.size, grownCap (w2.setCell ⟨w.heap.size + 1, 256, none⟩ (.slice (some ⟨w.heap.size, 0, none⟩) 3 3)) 2 0 5) := ⟨_, rfl⟩
 rw [← hgC]
 clear hgC
 rintro v4 B1
 rw [rounds_succ]
 have HB2 := Aside0.mk B1
 clear B1
 go_wp2_with fail
 go_ret
 exact ⟨rfl, gA, gB, gC, HB2.out⟩
end Go.Proofs.YtnfanpjfhdlddaaGreatDoor.Pr
end
section
set_option linter.unusedVariables false
set_option linter.unusedSimpArgs false
namespace Go.Proofs.YtnfanpjfhdlddaaGreatDoor.Pr
open Go.RowKit Go.Proofs.YtnfanpjfhdlddaaGreatDoorW.PrintWords Go.Proofs.YtnfanpjfhdlddaaGreatDoorW.PrintLast Go.Proofs.YtnfanpjfhdlddaaGreatDoorW.PrintMore
def two (T : Nat) (W : World) (k : Nat) (v : Option Value) : Prop := ∃ g c, v = some (.slice (some ⟨g, 0, none⟩) 2 c) ∧ T + 1 < g ∧ g < W.heap.size ∧ 2 ≤ c ∧ W.cell? ⟨g, 0, none⟩ = some (.int .u8 92) ∧ W.cell? ⟨g, 1, none⟩ = some (.int .u8 (k : Int))
def Ws (T : Nat) (W : World) : Prop := ∃ ch, W.heap[T + 1]? = some (.cells ch 176 (0, 0)) ∧ T + 1 < W.heap.size ∧ two T W 110 ch[10]? ∧ two T W 92 ch[92]? ∧ two T W 34 ch[34]? ∧
  ch[256]? = some (.slice (some ⟨T, 0, none⟩) 3 3) ∧ (∀ i, i < 256 → i ≠ 10 → i ≠ 92 → i ≠ 34 → ch[i]? = some (.slice none 0 0)) ∧ W.heap[T]? = some (.cells #[.string ⟨#[10]⟩, .string ⟨#[92]⟩, .string ⟨#[34]⟩] 9 (0, 0))
theorem two_far {T k : Nat} {W W' : World} {v : Option Value} (h : two T W k v) (hs : W.heap.size ≤ W'.heap.size) (hk : ∀ i, T ≤ i → i < W.heap.size → W'.heap[i]? = W.heap[i]?) : two T W' k v := by
 obtain ⟨g, c, e, a1, a2, a3, a4, a5⟩ := h
 exact ⟨g, c, e, a1, by omega, a3, (World.cell?_of_block (w := W) (hk g (by omega) a2)).trans a4, (World.cell?_of_block (w := W) (hk g (by omega) a2)).trans a5⟩
theorem Ws.far {T : Nat} {W W' : World} (h : Ws T W) (hs : W.heap.size ≤ W'.heap.size) (hk : ∀ i, T ≤ i → i < W.heap.size → W'.heap[i]? = W.heap[i]?) : Ws T W' := by
 obtain ⟨ch, e, lt, a, b, c, d, f, t⟩ := h
 exact ⟨ch, (hk _ (by omega) lt).trans e, by omega, two_far a hs hk, two_far b hs hk, two_far c hs hk, d, f, (hk _ (by omega) (by omega)).trans t⟩
theorem Bs.ws {w w' : World} {gA gB gC : Nat × Nat} (h : Bs w (some gA) (some gB) (some gC) 3 ⟨#[10]⟩ ⟨#[92]⟩ ⟨#[34]⟩ w') : Ws w.heap.size w' := by
 obtain ⟨ch, e, e1, e2, e3, e4, e5, e6⟩ := h.H
 obtain ⟨a1, a2, a3, a4, a5⟩ := h.A
 obtain ⟨b1, b2, b3, b4, b5⟩ := h.B
 obtain ⟨c1, c2, c3, c4, c5⟩ := h.C
 exact ⟨ch, e, h.lt, ⟨_, _, e2, a1, a2, a3, a4, a5⟩, ⟨_, _, e3, b1, b2, b3, b4, b5⟩, ⟨_, _, e4, c1, c2, c3, c4, c5⟩, e5, e6, h.T⟩
def RR (w0 : World) (g T : Nat) (W : World) : Prop := Below w0.heap.size w0 W ∧ Ws T W
theorem RR.set {w0 : World} {g T : Nat} {W : World} (h : RR w0 g T W) (hg : w0.heap.size ≤ g) (hT : g < T) (j : Nat) (u : Value) : RR w0 g T (W.setCell ⟨g, j, none⟩ u) :=
 ⟨h.1.setCell hg _, h.2.far (by simp) fun i hi _ => Below.heap_setCell _ _ _ _ (by show i ≠ g; omega)⟩
theorem RR.drew {w0 : World} {g T : Nat} {W : World} (h : RR w0 g T W) : RR w0 g T W.drew := ⟨h.1.drew, h.2.far (Nat.le_refl _) fun i _ _ => rfl⟩
set_option maxRecDepth 1000000 in
set_option maxHeartbeats 4000000 in
theorem once_any (w0 : World) (g q c : Nat) (w : World) (hg : w.heap[g]? = some (.cells #[.int .u32 0, .int .i32 1, .int .u32 0, Value.nilIface, .slice (some ⟨q, 0, none⟩) 6 c] 144 (0, 0)))
  (q0 : w.cell? ⟨q, 0, none⟩ = some (.string ⟨#[34]⟩)) (q1 : w.cell? ⟨q, 1, none⟩ = some (.string ⟨#[92, 34]⟩))
  (q2 : w.cell? ⟨q, 2, none⟩ = some (.string ⟨#[92]⟩)) (q3 : w.cell? ⟨q, 3, none⟩ = some (.string ⟨#[92, 92]⟩))
  (q4 : w.cell? ⟨q, 4, none⟩ = some (.string ⟨#[10]⟩)) (q5 : w.cell? ⟨q, 5, none⟩ = some (.string ⟨#[92, 110]⟩)) (hn : w0.heap.size ≤ g) (hb : Below w0.heap.size w0 w) :
  Calls Tryz.prog 106 #[.pointer (some ⟨g, 0, none⟩)] w fun e w' => e = .returned (.tuple #[]) ∧
   w'.heap[g]? = some (.cells #[.int .u32 0, .int .i32 1, .int .u32 0, .iface 177 (.pointer (some ⟨w.heap.size + 1, 0, none⟩)), .slice none 0 0] 144 (0, 0)) ∧ RR w0 g w.heap.size w' := by
 have hlt : g < w.heap.size := (Array.getElem?_eq_some_iff.1 hg).1
 have H := Aside0.mk (build_any g q c w hg q0 q1 q2 q3 q4 q5)
 have HG := Aside0.mk hg
 have HB := Aside0.mk hb
 clear hg q0 q1 q2 q3 q4 q5 hb
 go_enter Tryz.func106, Tryz.ntmps106
 go_wp2_with (go_at_call 122; refine H.out.mono ?_; rintro e w1 ⟨rfl, gA, gB, gC, B1⟩; apply StopAt.out)
 apply StopAt.mk
 have bg : w1.heap[g]? = _ := (B1.bel.block g hlt).trans HG.out
 have c3 := blk_cell bg 3
 have c4 := blk_cell bg 4
 have f3 := blk_frozen bg 3
 have f4 := blk_frozen bg 4
 have b3 := blk_set bg 3 (.iface 177 (.pointer (some ⟨w.heap.size + 1, 0, none⟩)))
 have b4 := blk_set b3 4 (.slice none 0 0)
 have hR : RR w0 g w.heap.size w1 := ⟨HB.out.trans (B1.bel.mono (by have := HB.out.size; omega)), B1.ws⟩
 have HR := Aside0.mk ((hR.set hn hlt 3 (.iface 177 (.pointer (some ⟨w.heap.size + 1, 0, none⟩)))).set hn hlt 4 (.slice none 0 0))
 have B4 := Aside0.mk b4
 clear B1 bg b3 b4 hR
 simp at c3 c4
 go_wp2_with fail
 go_end0
 exact ⟨rfl, B4.out, HR.out⟩
set_option maxRecDepth 1000000 in
set_option maxHeartbeats 4000000 in
theorem do_first (w0 : World) (g q c : Nat) (w : World) (hg : w.heap[g]? = some (.cells #[.int .u32 0, .int .i32 0, .int .u32 0, Value.nilIface, .slice (some ⟨q, 0, none⟩) 6 c] 144 (0, 0)))
  (q0 : w.cell? ⟨q, 0, none⟩ = some (.string ⟨#[34]⟩)) (q1 : w.cell? ⟨q, 1, none⟩ = some (.string ⟨#[92, 34]⟩))
  (q2 : w.cell? ⟨q, 2, none⟩ = some (.string ⟨#[92]⟩)) (q3 : w.cell? ⟨q, 3, none⟩ = some (.string ⟨#[92, 92]⟩))
  (q4 : w.cell? ⟨q, 4, none⟩ = some (.string ⟨#[10]⟩)) (q5 : w.cell? ⟨q, 5, none⟩ = some (.string ⟨#[92, 110]⟩)) (hqg : q ≠ g) (hn : w0.heap.size ≤ g) (hb : Below w0.heap.size w0 w) :
  Calls Tryz.prog 105 #[.pointer (some ⟨g, 0, none⟩), .func (.func 106) #[.pointer (some ⟨g, 0, none⟩)] #[]] w fun e w' => e = .returned (.tuple #[]) ∧
   w'.heap[g]? = some (.cells #[.int .u32 1, .int .i32 0, .int .u32 0, .iface 177 (.pointer (some ⟨w.heap.size + 1, 0, none⟩)), .slice none 0 0] 144 (0, 0)) ∧ RR w0 g w.heap.size w' := by
 have hlt : g < w.heap.size := (Array.getElem?_eq_some_iff.1 hg).1
 have hsz : (w.setCell ⟨g, 1, none⟩ (.int .i32 1)).heap.size = w.heap.size := by simp
 have hk : ∀ i, (w.setCell ⟨g, 1, none⟩ (.int .i32 1)).cell? ⟨q, i, none⟩ = w.cell? ⟨q, i, none⟩ := fun i => World.cell?_setCell_other _ _ _ _ (by simp [hqg])
 have hF := once_any w0 g q c (w.setCell ⟨g, 1, none⟩ (.int .i32 1)) (blk_set hg 1 _) ((hk 0).trans q0) ((hk 1).trans q1) ((hk 2).trans q2) ((hk 3).trans q3) ((hk 4).trans q4) ((hk 5).trans q5) hn (hb.setCell hn _)
 rw [hsz] at hF
 have HS := Aside0.mk (slow_any g _ _ _ _ w (RR w0 g w.heap.size) hg hF (fun W j u h => h.set hn hlt j u) (fun W h => h.drew))
 have hl := run_call_load (P := Tryz.prog) Tryz.func129 (by kernel_rfl) (by kernel_rfl) (by kernel_rfl) .u32 (by kernel_rfl) (w := w) (a := ⟨g, 0, none⟩) (x := 0) (blk_cell hg 0)
 have hnot : ∀ (x : Bool) (w : World), (Op.unary .not (.bool x)).run Tryz.prog w = .ok (.bool (!x)) w := fun _ _ => rfl
 clear hF hg q0 q1 q2 q3 q4 q5 hk hb hsz
 go_enter Tryz.func105, Tryz.ntmps105
 go_wp2_with (first | (go_at_call 121; refine HS.out.mono ?_; rintro e w' ⟨rfl, B5, R5⟩; have B6 := Aside0.mk B5; have R6 := Aside0.mk R5; clear B5 R5) | (go_at_call 120; go_in))
 go_end0
 exact ⟨rfl, B6.out, R6.out⟩
end Go.Proofs.YtnfanpjfhdlddaaGreatDoor.Pr
end
section
set_option linter.unusedVariables false
set_option linter.unusedSimpArgs false
namespace Go.Proofs.YtnfanpjfhdlddaaGreatDoor.Pr
open Go.RowKit Go.Proofs.YtnfanpjfhdlddaaGreatDoorW.PrintWords Go.Proofs.YtnfanpjfhdlddaaGreatDoorW.PrintLast Go.Proofs.YtnfanpjfhdlddaaGreatDoorW.PrintMore
def plainQ (s : ByteArray) : Bool := decide (s.size < 24) && s.data.all fun b => b != 10 && b != 92 && b != 34
theorem plainQ_at {s : ByteArray} (h : plainQ s = true) (i : Nat) (hi : i < s.size) : (s[i]'hi).toNat ≠ 10 ∧ (s[i]'hi).toNat ≠ 92 ∧ (s[i]'hi).toNat ≠ 34 := by
 simp only [plainQ, Bool.and_eq_true, decide_eq_true_eq] at h
 have h2 := Array.all_eq_true.1 h.2 i hi
 simp only [Bool.and_eq_true, bne_iff_ne, ne_eq] at h2
 obtain ⟨⟨a, b⟩, c⟩ := h2
 refine ⟨fun e => a ?_, fun e => b ?_, fun e => c ?_⟩ <;> exact UInt8.toNat_inj.1 e
set_option maxRecDepth 1000000 in
set_option maxHeartbeats 4000000 in
theorem bsr_plain (T : Nat) (s : ByteArray) (w : World) (hW : Ws T w) (hs : plainQ s = true) :
  Calls Tryz.prog 182 #[.pointer (some ⟨T + 1, 0, none⟩), .string s] w fun e w' => e = .returned (.string s) ∧ w' = w := by
 obtain ⟨ch, e, lt, a, b, c, d, f, t⟩ := hW
 have d1 : w.cell? ⟨T + 1, 256, none⟩ = some (.slice (some ⟨T, 0, none⟩) 3 3) := (blk_cell e 256).trans d
 have hlt : (s.size : Int) < 24 := by
  simp only [plainQ, Bool.and_eq_true, decide_eq_true_eq] at hs
  omega
 have hnot : ∀ (x : Bool) (w : World), (Op.unary .not (.bool x)).run Tryz.prog w = .ok (.bool (!x)) w := fun _ _ => rfl
 have hnil : ∀ (W : World), (binOp .neq 108 (.slice none 0 0) (.slice none 0 0)).run Tryz.prog W = .ok (.bool false) W := fun W => run_neq_slice_nil_any W 108 5 none 0 0 0 0 Tryz.underlying108
 have HX : Aside0 (∀ i, (h : i < s.size) → w.cell? ⟨T + 1, (s[i]'h).toNat, none⟩ = some (.slice none 0 0)) := ⟨fun i h => by
  obtain ⟨h1, h2, h3⟩ := plainQ_at hs i h
  exact (blk_cell e _).trans (f _ (UInt8.toNat_lt _) h1 h2 h3)⟩
 clear e a b c d f t hs
 go_enter Tryz.func182, Tryz.ntmps182
 go_wp2_with fail
 go_loopg [6, 10] (s.size + 1) (fun kq v6 v10 w' => ∃ i : Nat, v6 = .bool false ∧ v10 = .int .i64 (i : Int) ∧ i + kq = s.size + 1 ∧ w' = w)
 case atStart => exact ⟨0, rfl, rfl, by omega, rfl⟩
 case round =>
  obtain ⟨i, rfl, rfl, hk, rfl⟩ := hrel
  by_cases hi : i < s.size
  ·
   have hx := HX.out i hi
   have hi2 : (i : Int) < (s.size : Int) := by omega
   have hbd : (((s[i]'hi).toNat : Nat) : Int) < 256 := by have := UInt8.toNat_lt (s[i]'hi); omega
   cases gk with
   | zero => omega
   | succ k1 =>
    have HK := Aside0.mk hk
    clear hk
    go_wp2_with fail
    go_roundg k1
    case measure => omega
    case rel => exact ⟨i + 1, rfl, by simp, by have := HK.out; omega, rfl⟩
  ·
   have hi2 : ¬ (i : Int) < (s.size : Int) := by omega
   go_wp2_with fail
   go_ret
   exact ⟨rfl, rfl⟩
end Go.Proofs.YtnfanpjfhdlddaaGreatDoor.Pr
end
section
set_option linter.unusedVariables false
set_option linter.unusedSimpArgs false
namespace Go.Proofs.YtnfanpjfhdlddaaGreatDoor.Pr
open Go.RowKit Go.Proofs.YtnfanpjfhdlddaaGreatDoorW.PrintWords Go.Proofs.YtnfanpjfhdlddaaGreatDoorW.PrintLast Go.Proofs.YtnfanpjfhdlddaaGreatDoorW.PrintMore
set_option maxRecDepth 1000000 in
set_option maxHeartbeats 4000000 in
theorem replace_plain (w0 : World) (g q c : Nat) (s : ByteArray) (w : World) (hg : w.heap[g]? = some (.cells #[.int .u32 0, .int .i32 0, .int .u32 0, Value.nilIface, .slice (some ⟨q, 0, none⟩) 6 c] 144 (0, 0)))
  (q0 : w.cell? ⟨q, 0, none⟩ = some (.string ⟨#[34]⟩)) (q1 : w.cell? ⟨q, 1, none⟩ = some (.string ⟨#[92, 34]⟩))
  (q2 : w.cell? ⟨q, 2, none⟩ = some (.string ⟨#[92]⟩)) (q3 : w.cell? ⟨q, 3, none⟩ = some (.string ⟨#[92, 92]⟩))
  (q4 : w.cell? ⟨q, 4, none⟩ = some (.string ⟨#[10]⟩)) (q5 : w.cell? ⟨q, 5, none⟩ = some (.string ⟨#[92, 110]⟩)) (hqg : q ≠ g) (hn : w0.heap.size ≤ g) (hb : Below w0.heap.size w0 w) (hs : plainQ s = true) :
  Calls Tryz.prog 81 #[.pointer (some ⟨g, 0, none⟩), .string s] w fun e w' => e = .returned (.string s) ∧ Below w0.heap.size w0 w' := by
 have H := Aside0.mk (do_first w0 g q c w hg q0 q1 q2 q3 q4 q5 hqg hn hb)
 have hmf : ∀ (fn : Fn) (first cap : Array Value) (w : World), (Instr.makeFunc fn first cap).run Tryz.prog w = .ok (.func fn first cap) w := fun _ _ _ _ => rfl
 have hm : ∀ (b off : Nat) (W : World), (method 331 177 (.pointer (some ⟨b, off, none⟩)) "Replace").run Tryz.prog W = .ok (182, .pointer (some ⟨b, off, none⟩)) W := fun _ _ _ => by kernel_rfl
 clear hg q0 q1 q2 q3 q4 q5 hqg hb
 go_enter Tryz.func81, Tryz.ntmps81
 go_wp2_with (first | (go_at_call 105; refine H.out.mono ?_; rintro e w1 ⟨rfl, B1, R1⟩; have c3 := blk_cell B1 3; simp at c3; have HR := Aside0.mk R1; clear B1 R1) | (go_at_call 182; refine (bsr_plain _ s _ HR.out.2 hs).mono ?_; rintro e w2 ⟨rfl, rfl⟩))
 go_ret
 exact ⟨rfl, HR.out.1⟩
def six : List Value := [.string ⟨#[34]⟩, .string ⟨#[92, 34]⟩, .string ⟨#[92]⟩, .string ⟨#[92, 92]⟩, .string ⟨#[10]⟩, .string ⟨#[92, 110]⟩]
theorem app6 {W : World} {b : Nat} (h : W.heap[b]? = some (.cells six.toArray 9 (0, 0))) :
  ∃ z, ∀ ty, (Builtin.append_ #[34, 34] ty #[.slice none 0 0, .slice (some ⟨b, 0, none⟩) 6 6]).run Tryz.prog W = .ok (.slice (some ⟨W.heap.size, 0, none⟩) 6 (grownCap W 6 0 9)) (W.drew.alloc (.cells (six.toArray ++ z) 9)) := by
 have hi : (Tryz.prog.info? 9).map (fun i => (i.zero, i.size, i.bytes)) = some (some (.string ⟨#[]⟩), 1, 16) := by kernel_rfl
 cases h' : Tryz.prog.info? 9 with
 | none => simp [h'] at hi
 | some i =>
  simp [h'] at hi
  exact ⟨_, fun ty => run_append_nil (P := Tryz.prog) (w := W) 34 ty 9 i (.string ⟨#[]⟩) Tryz.underlying34 h' hi.1 ⟨b, 0, none⟩ 6 6 six (by rw [hi.2.1]; rfl) (fun j v hj => by
   have : (⟨b, 0, none⟩ : Addr).add j = ⟨b, j, none⟩ := by unfold Addr.add; split <;> simp_all
   rw [this, blk_cell h]
   simpa using hj) (by omega) (by omega) (by rw [hi.2.2]; omega)⟩
def NRΦ (w : World) (z : Array Value) (w2 : World) : Prop := w2.heap.size = w.heap.size + 1 ∧ Below w.heap.size w w2 ∧ w2.heap[w.heap.size]? = some (.cells (six.toArray ++ z) 9 (0, 0))
set_option maxRecDepth 1000000 in
set_option maxHeartbeats 4000000 in
theorem new_replacer (b : Nat) (w : World) (hb : w.heap[b]? = some (.cells six.toArray 9 (0, 0))) :
  Calls Tryz.prog 80 #[.slice (some ⟨b, 0, none⟩) 6 6] w fun e w' => ∃ c, e = .returned (.pointer (some ⟨w.heap.size + 1, 0, none⟩)) ∧ Below w.heap.size w w' ∧
   w'.heap[w.heap.size + 1]? = some (.cells #[.int .u32 0, .int .i32 0, .int .u32 0, Value.nilIface, .slice (some ⟨w.heap.size, 0, none⟩) 6 c] 144 (0, 0)) ∧
   ∃ z, w'.heap[w.heap.size]? = some (.cells (six.toArray ++ z) 9 (0, 0)) := by
 have hlt : b < w.heap.size := (Array.getElem?_eq_some_iff.1 hb).1
 obtain ⟨z, hz⟩ := app6 hb
 have HZ := Aside0.mk hz
 have hp : w.heap.size < (w.drew.alloc (.cells (six.toArray ++ z) 9)).heap.size := by rw [← alloc_size]; exact Nat.lt_succ_self _
 have HP := Aside0.mk (show NRΦ w z (w.drew.alloc (.cells (six.toArray ++ z) 9)) from
  ⟨(alloc_size _ _).symm, (Below.refl _ _).drew.alloc (Nat.le_refl _) _, heap_alloc_new w.drew _⟩)
 clear hb hz hp
 go_enter Tryz.func80, Tryz.ntmps80
 go_wp2_with (at_builtin; go_loud (refine wpList_append_run rfl (.const (.slice none 0 0)) (.tmp 8) 34 rfl _ _ rfl rfl _ _ HZ.out (NRΦ w z) HP.out ?_; intro w2 B2; apply StopAt.out))
 apply StopAt.mk
 obtain ⟨hs, hb, hh⟩ := B2
 have HS := Aside0.mk hs
 have HB := Aside0.mk hb
 have HH := Aside0.mk hh
 clear hs hb hh
 go_wp2_with fail
 go_ret
 have e1 := HS.out
 refine ⟨grownCap w 6 0 9, ?_, HB.out.alloc (by omega) _, ?_, z, (Below.heap_alloc _ _ _ (by omega)).trans HH.out⟩
 ·
  rw [← e1]; rfl
 ·
  rw [← e1]
  exact heap_alloc_new _ _
end Go.Proofs.YtnfanpjfhdlddaaGreatDoor.Pr
end
