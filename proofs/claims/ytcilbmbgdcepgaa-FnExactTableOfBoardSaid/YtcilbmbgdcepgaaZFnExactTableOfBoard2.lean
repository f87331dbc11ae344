/- FnExactTableOfBoard: texts of this claim in one: WalkFnExactTableOfBoard, ABoM, ABaseM, ARe, ATs, LawTableOfBoard, Op, RowFnExactTableOfBoard. -/
import Derived.Test.YtcilbmbgdcepgaaZFnExactTableOfBoard0
import Derived.Test.YtcilbmbgdcepgaaYFnExactTableOfBoardPx92
import Derived.Test.YtcilbmbgdcepgaaYFnExactTableOfBoardPx94
import Derived.Test.YtcilbmbgdcepgaaYFnExactTableOfBoardPx95
import Derived.Test.YtcilbmbgdcepgaaYFnExactTableOfBoardPx96
import Derived.Test.YtcilbmbgdcepgaaYFnExactTableOfBoardPx98
import Derived.Test.YtcilbmbgdcepgaaZFnExactTableOfBoard1
import Derived.Test.YtcilbmbgdcepgaaYFnExactTableOfBoardPx53
import Derived.Test.YtcilbmbgdcepgaaYFnExactTableOfBoardPx61
import Derived.Test.YtcilbmbgdcepgaaYFnExactTableOfBoardPx97
import Derived.Test.YtcilbmbgdcepgaaYFnExactTableOfBoardPx80
import Derived.Test.YtcilbmbgdcepgaaYFnExactTableOfBoardAEn
import Derived.Test.YtcilbmbgdcepgaaYFnExactTableOfBoardATb
import Derived.Deep.Slices
import Derived.ChangeSame
import Derived.ChangeArms
import Derived.Test.YtcilbmbgdcepgaaWWords
import Derived.Test.YtcilbmbgdcepgaaRows
import Derived.WalkKit
import Derived.ProofKit
import Derived.OpenShut
import Derived.ShutString
import Derived.ChangeOld
import Derived.Below
import Derived.SizedLaws
section
/- The walk of FnExactTableOfBoard along the one way on which all its tests succeed, and the short ones where an argument is too great. -/
namespace Go.Proofs.Ytcilbmbgdcepgaa.P
open Go.RowKit YtcilbmbgdcepgaaW.PrintWords YtcilbmbgdcepgaaW.PrintLast YtcilbmbgdcepgaaW.PrintMore Go.Proofs.Ytcilbmbgdcepgaa
set_option linter.unusedVariables false
set_option linter.unusedSimpArgs false
set_option maxHeartbeats 4000000 in
set_option maxRecDepth 100000 in
theorem FnExactTableOfBoard_small0 (k : Nat) (a0_0 : Int) (a0_1 : Int) (A0_2 : Option Addr) (c0_2 : Nat) (l0_2 : List S96) (a1 : Int) (a2 : Int) (z_aB : Int) (w : World)
  (hr0_2 : Kd.C k96 w A0_2 l0_2.length l0_2) (hc0_2 : l0_2.length ≤ c0_2)
  (e_sz_aB : laws_szBoard.f a0_0 a0_1 l0_2 1048576 = some z_aB)
  (hz_aB : z_aB < 0) :
  Calls Try.prog 10 #[.agg #[.int .i64 a0_0, .int .i64 a0_1, .slice A0_2 l0_2.length c0_2], .int .i64 a1, .int .i64 a2] w fun e w' => e = .returned (.bool true) ∧ Below w.heap.size w w' := by
 have hu51 := Try.underlying51
 have hu32 := Try.underlying32
 have hu24 := Try.underlying24
 have hzb_aB : decide (z_aB < 0) = true := decide_eq_true (by omega)
 have HR0_2 := Aside0.mk hr0_2
 clear hr0_2
 have HC0_2 := Aside0.mk hc0_2
 clear hc0_2
 have He_sz_aB := Aside0.mk e_sz_aB
 clear e_sz_aB
 have HB := Aside0.mk (Below.refl w.heap.size w)
 go_enter Try.func10, Try.ntmps10
 go_wp2_with fail
 refine (laws_szBoard.calls _ _ _ _ _ _ _ _ (Kd.C_below HR0_2.out (below_step HB.out Own.bel)) HC0_2.out He_sz_aB.out).mono ?_
 rintro e w1 ⟨rfl, hb⟩
 have BK_aB := Aside0.mk (blk_below (g := w.heap.size) (o := .cells #[.int .i64 a0_0, .int .i64 a0_1, .slice A0_2 l0_2.length c0_2] 32 (0, 0)) (by (repeat (first | with_reducible refine blk_drewN ?_ _ | with_reducible refine blk_drew ?_)); exact (blk_new _ _)) hb)
 have HG_BK_aB : Aside0 (w.heap.size < w1.heap.size) := ⟨blk_lt BK_aB.out⟩
 have HW := Aside0.mk (below_step (w := w) Own.bel hb)
 have HZ1 : Aside0 (w.heap.size ≤ w1.heap.size) := ⟨HW.out.size⟩
 replace HB := Aside0.mk (below_step HB.out HW.out)
 clear hb HW
 have czBK_aB_0 : w1.cell? ⟨w.heap.size, 0, none⟩ = some (.int .i64 a0_0) := (blk_cell BK_aB.out 0).trans rfl
 have czBK_aB_1 : w1.cell? ⟨w.heap.size, 1, none⟩ = some (.int .i64 a0_1) := (blk_cell BK_aB.out 1).trans rfl
 have czBK_aB_2 : w1.cell? ⟨w.heap.size, 2, none⟩ = some (.slice A0_2 l0_2.length c0_2) := (blk_cell BK_aB.out 2).trans rfl
 go_wp2_with fail
 go_ret
 exact ⟨rfl, below_step HB.out Own.bel⟩
set_option maxHeartbeats 4000000 in
set_option maxRecDepth 100000 in
theorem FnExactTableOfBoard_walk (k : Nat) (a0_0 : Int) (a0_1 : Int) (A0_2 : Option Addr) (c0_2 : Nat) (l0_2 : List S96) (a1 : Int) (a2 : Int) (z_aB : Int) (ml0_2 : List S71) (r0_0 : Int) (r0_1 : List (Int)) (r1 : Bool) (s0_1 : List (Int)) (kx0 : Int) (nx0_2 : List (S71)) (mg0 : Int) (ng0_1 : List (Int)) (w : World)
  (hr0_2 : Kd.C k96 w A0_2 l0_2.length l0_2) (hc0_2 : l0_2.length ≤ c0_2)
  (e_sz_aB : laws_szBoard.f a0_0 a0_1 l0_2 1048576 = some z_aB)
  (hz_aB : 0 ≤ z_aB)
  (e_to_aB : laws_toBoard.f k a0_0 a0_1 l0_2 = some (a0_0, a0_1, ml0_2))
  (e_spec : spec_TableOfBoard.f k a0_0 a0_1 ml0_2 a1 a2 = some (r0_0, r0_1, r1))
  (e_impl : impl_TableOfBoard.f k a0_0 a0_1 ml0_2 a1 a2 = some (r0_0, s0_1, r1))
  (e_eq_w0 : laws_eqTable.f k r0_0 s0_1 r0_0 r0_1 = some true)
  (e_eq_x0 : laws_eqBoard.f k a0_0 a0_1 ml0_2 a0_0 a0_1 ml0_2 = some true)
  (e_mark_x0 : laws_markBoard.f k a0_0 a0_1 ml0_2 1 = some (kx0, nx0_2))
  (hkx0 : 0 ≤ kx0)
  (e_mark_g0 : laws_markTable.f k r0_0 s0_1 1 = some (mg0, ng0_1))
  (hmg0 : 0 ≤ mg0)
  (e_held_g0 : laws_heldTable.f k r0_0 ng0_1 1 = some mg0) :
  Calls Try.prog 10 #[.agg #[.int .i64 a0_0, .int .i64 a0_1, .slice A0_2 l0_2.length c0_2], .int .i64 a1, .int .i64 a2] w fun e w' => e = .returned (.bool true) ∧ Below w.heap.size w w' := by
 have hu51 := Try.underlying51
 have hu32 := Try.underlying32
 have hu24 := Try.underlying24
 have hzb_aB : decide (z_aB < 0) = false := decide_eq_false (by omega)
 have HR0_2 := Aside0.mk hr0_2
 clear hr0_2
 have HC0_2 := Aside0.mk hc0_2
 clear hc0_2
 have He_sz_aB := Aside0.mk e_sz_aB
 clear e_sz_aB
 have He_to_aB := Aside0.mk e_to_aB
 clear e_to_aB
 have He_spec := Aside0.mk e_spec
 clear e_spec
 have He_impl := Aside0.mk e_impl
 clear e_impl
 have He_eq_w0 := Aside0.mk e_eq_w0
 clear e_eq_w0
 have He_eq_x0 := Aside0.mk e_eq_x0
 clear e_eq_x0
 have He_mark_x0 := Aside0.mk e_mark_x0
 clear e_mark_x0
 have hkb_x0 : decide (kx0 < 0) = false := decide_eq_false (by omega)
 have He_mark_g0 := Aside0.mk e_mark_g0
 clear e_mark_g0
 have hmb_g0 : decide (mg0 < 0) = false := decide_eq_false (by omega)
 have He_held_g0 := Aside0.mk e_held_g0
 clear e_held_g0
 have HB := Aside0.mk (Below.refl w.heap.size w)
 go_enter Try.func10, Try.ntmps10
 go_wp2_with fail
 refine (laws_szBoard.calls _ _ _ _ _ _ _ _ (Kd.C_below HR0_2.out (below_step HB.out Own.bel)) HC0_2.out He_sz_aB.out).mono ?_
 rintro e w1 ⟨rfl, hb⟩
 have BK_aB := Aside0.mk (blk_below (g := w.heap.size) (o := .cells #[.int .i64 a0_0, .int .i64 a0_1, .slice A0_2 l0_2.length c0_2] 32 (0, 0)) (by (repeat (first | with_reducible refine blk_drewN ?_ _ | with_reducible refine blk_drew ?_)); exact (blk_new _ _)) hb)
 have HG_BK_aB : Aside0 (w.heap.size < w1.heap.size) := ⟨blk_lt BK_aB.out⟩
 have HW := Aside0.mk (below_step (w := w) Own.bel hb)
 have HZ1 : Aside0 (w.heap.size ≤ w1.heap.size) := ⟨HW.out.size⟩
 replace HB := Aside0.mk (below_step HB.out HW.out)
 clear hb HW
 have czBK_aB_0 : w1.cell? ⟨w.heap.size, 0, none⟩ = some (.int .i64 a0_0) := (blk_cell BK_aB.out 0).trans rfl
 have czBK_aB_1 : w1.cell? ⟨w.heap.size, 1, none⟩ = some (.int .i64 a0_1) := (blk_cell BK_aB.out 1).trans rfl
 have czBK_aB_2 : w1.cell? ⟨w.heap.size, 2, none⟩ = some (.slice A0_2 l0_2.length c0_2) := (blk_cell BK_aB.out 2).trans rfl
 go_wp2_with fail
 refine (laws_toBoard.calls k _ _ _ _ _ _ _ _ _ (Kd.C_below HR0_2.out (below_step HB.out Own.bel)) HC0_2.out He_to_aB.out).mono ?_
 rintro e w2 ⟨vt14_0, rfl, hf1, hb⟩
 clear czBK_aB_0 czBK_aB_1 czBK_aB_2
 have HN := Aside0.mk HB.out.size
 have HW := Aside0.mk (below_step (w := w1) Own.bel hb)
 have HZ2 : Aside0 (w1.heap.size ≤ w2.heap.size) := ⟨HW.out.size⟩
 replace HB := Aside0.mk (below_step HB.out HW.out)
 replace BK_aB := Aside0.mk (blk_below BK_aB.out HW.out)
 obtain ⟨lo1_, F1, HLO1⟩ := Own.R_iv (wN := w1) rfl hf1 HN.out Own.bel hb
 obtain ⟨A1_, c1_, e1_⟩ := Kd.R_slice F1.out
 subst e1_
 clear hb HW HN hf1
 have czBK_aB_0 : w2.cell? ⟨w.heap.size, 0, none⟩ = some (.int .i64 a0_0) := (blk_cell BK_aB.out 0).trans rfl
 have czBK_aB_1 : w2.cell? ⟨w.heap.size, 1, none⟩ = some (.int .i64 a0_1) := (blk_cell BK_aB.out 1).trans rfl
 have czBK_aB_2 : w2.cell? ⟨w.heap.size, 2, none⟩ = some (.slice A0_2 l0_2.length c0_2) := (blk_cell BK_aB.out 2).trans rfl
 go_wp2_with fail
 refine (spec_TableOfBoard.calls k _ _ _ _ _ _ _ _ _ _ _ (Kd.C_below (Kd.R_reads' F1.out).2.2 Own.bel) (Kd.R_reads' F1.out).2.1 He_spec.out).mono ?_
 rintro e w3 ⟨vw0_0, rfl, hf2, hb⟩
 clear czBK_aB_0 czBK_aB_1 czBK_aB_2
 have HN := Aside0.mk HB.out.size
 have HW := Aside0.mk (below_step (w := w2) Own.bel hb)
 have HZ3 : Aside0 (w2.heap.size ≤ w3.heap.size) := ⟨HW.out.size⟩
 replace HB := Aside0.mk (below_step HB.out HW.out)
 replace F1 := Aside0.mk (Kd.R_below F1.out HW.out)
 replace BK_aB := Aside0.mk (blk_below BK_aB.out HW.out)
 obtain ⟨lo2_, F2, HLO2⟩ := Own.R_iv (wN := w2) rfl hf2 HN.out Own.bel hb
 obtain ⟨A2_, c2_, e2_⟩ := Kd.R_slice F2.out
 subst e2_
 clear hb HW HN hf2
 have czBK_aB_0 : (w3.alloc (.cells #[.int .i64 r0_0, .slice A2_ r0_1.length c2_] 51)).cell? ⟨w.heap.size, 0, none⟩ = some (.int .i64 a0_0) := (blk_cell (blk_alloc BK_aB.out _) 0).trans rfl
 have czBK_aB_1 : (w3.alloc (.cells #[.int .i64 r0_0, .slice A2_ r0_1.length c2_] 51)).cell? ⟨w.heap.size, 1, none⟩ = some (.int .i64 a0_1) := (blk_cell (blk_alloc BK_aB.out _) 1).trans rfl
 have czBK_aB_2 : (w3.alloc (.cells #[.int .i64 r0_0, .slice A2_ r0_1.length c2_] 51)).cell? ⟨w.heap.size, 2, none⟩ = some (.slice A0_2 l0_2.length c0_2) := (blk_cell (blk_alloc BK_aB.out _) 2).trans rfl
 go_wp2_with fail
 refine (laws_toBoard.calls k _ _ _ _ _ _ _ _ _ (Kd.C_below HR0_2.out (below_step HB.out Own.bel)) HC0_2.out He_to_aB.out).mono ?_
 rintro e w4 ⟨vx0_0, rfl, hf3, hb⟩
 clear czBK_aB_0 czBK_aB_1 czBK_aB_2
 have HN := Aside0.mk HB.out.size
 have BK_w0 := Aside0.mk (blk_below (g := w3.heap.size) (o := .cells #[.int .i64 r0_0, .slice A2_ r0_1.length c2_] 51 (0, 0)) (by (repeat (first | with_reducible refine blk_drewN ?_ _ | with_reducible refine blk_drew ?_)); exact (blk_new _ _)) hb)
 have HG_BK_w0 : Aside0 (w3.heap.size < w4.heap.size) := ⟨blk_lt BK_w0.out⟩
 have HW := Aside0.mk (below_step (w := w3) Own.bel hb)
 have HZ4 : Aside0 (w3.heap.size ≤ w4.heap.size) := ⟨HW.out.size⟩
 replace HB := Aside0.mk (below_step HB.out HW.out)
 replace F1 := Aside0.mk (Kd.R_below F1.out HW.out)
 replace F2 := Aside0.mk (Kd.R_below F2.out HW.out)
 replace BK_aB := Aside0.mk (blk_below BK_aB.out HW.out)
 obtain ⟨lo3_, F3, HLO3⟩ := Own.R_ivb (wN := w3) (w3.heap.size) rfl hf3 HN.out Own.bel hb (blk_lt (o := .cells #[.int .i64 r0_0, .slice A2_ r0_1.length c2_] 51 (0, 0)) (by (repeat (first | with_reducible refine blk_drewN ?_ _ | with_reducible refine blk_drew ?_)); exact (blk_new _ _)))
 obtain ⟨A3_, c3_, e3_⟩ := Kd.R_slice F3.out
 subst e3_
 clear hb HW HN hf3
 have czBK_aB_0 : (w4.alloc (.cells #[.int .i64 a0_0, .int .i64 a0_1, .slice A3_ ml0_2.length c3_] 24)).cell? ⟨w.heap.size, 0, none⟩ = some (.int .i64 a0_0) := (blk_cell (blk_alloc BK_aB.out _) 0).trans rfl
 have czBK_aB_1 : (w4.alloc (.cells #[.int .i64 a0_0, .int .i64 a0_1, .slice A3_ ml0_2.length c3_] 24)).cell? ⟨w.heap.size, 1, none⟩ = some (.int .i64 a0_1) := (blk_cell (blk_alloc BK_aB.out _) 1).trans rfl
 have czBK_aB_2 : (w4.alloc (.cells #[.int .i64 a0_0, .int .i64 a0_1, .slice A3_ ml0_2.length c3_] 24)).cell? ⟨w.heap.size, 2, none⟩ = some (.slice A0_2 l0_2.length c0_2) := (blk_cell (blk_alloc BK_aB.out _) 2).trans rfl
 have czBK_w0_0 : (w4.alloc (.cells #[.int .i64 a0_0, .int .i64 a0_1, .slice A3_ ml0_2.length c3_] 24)).cell? ⟨w3.heap.size, 0, none⟩ = some (.int .i64 r0_0) := (blk_cell (blk_alloc BK_w0.out _) 0).trans rfl
 have czBK_w0_1 : (w4.alloc (.cells #[.int .i64 a0_0, .int .i64 a0_1, .slice A3_ ml0_2.length c3_] 24)).cell? ⟨w3.heap.size, 1, none⟩ = some (.slice A2_ r0_1.length c2_) := (blk_cell (blk_alloc BK_w0.out _) 1).trans rfl
 go_wp2_with fail
 refine (impl_TableOfBoard.calls k _ _ _ _ _ _ _ _ _ _ _ (Kd.C_below (Kd.R_reads' F3.out).2.2 Own.bel) (Kd.R_reads' F3.out).2.1 He_impl.out).mono ?_
 rintro e w5 ⟨vg0_0, rfl, hf4, hb⟩
 clear czBK_aB_0 czBK_aB_1 czBK_aB_2 czBK_w0_0 czBK_w0_1
 have HN := Aside0.mk HB.out.size
 have BK_x0 := Aside0.mk (blk_below (g := w4.heap.size) (o := .cells #[.int .i64 a0_0, .int .i64 a0_1, .slice A3_ ml0_2.length c3_] 24 (0, 0)) (by (repeat (first | with_reducible refine blk_drewN ?_ _ | with_reducible refine blk_drew ?_)); exact (blk_new _ _)) hb)
 have HG_BK_x0 : Aside0 (w4.heap.size < w5.heap.size) := ⟨blk_lt BK_x0.out⟩
 have HW := Aside0.mk (below_step (w := w4) Own.bel hb)
 have HZ5 : Aside0 (w4.heap.size ≤ w5.heap.size) := ⟨HW.out.size⟩
 replace HB := Aside0.mk (below_step HB.out HW.out)
 replace F1 := Aside0.mk (Kd.R_below F1.out HW.out)
 replace F2 := Aside0.mk (Kd.R_below F2.out HW.out)
 replace F3 := Aside0.mk (Kd.R_below F3.out HW.out)
 replace BK_aB := Aside0.mk (blk_below BK_aB.out HW.out)
 replace BK_w0 := Aside0.mk (blk_below BK_w0.out HW.out)
 obtain ⟨lo4_, F4, HLO4⟩ := Own.R_ivb (wN := w4) (w4.heap.size) rfl hf4 HN.out Own.bel hb (blk_lt (o := .cells #[.int .i64 a0_0, .int .i64 a0_1, .slice A3_ ml0_2.length c3_] 24 (0, 0)) (by (repeat (first | with_reducible refine blk_drewN ?_ _ | with_reducible refine blk_drew ?_)); exact (blk_new _ _)))
 obtain ⟨A4_, c4_, e4_⟩ := Kd.R_slice F4.out
 subst e4_
 clear hb HW HN hf4
 have czBK_aB_0 : (w5.alloc (.cells #[.int .i64 r0_0, .slice A4_ s0_1.length c4_] 51)).cell? ⟨w.heap.size, 0, none⟩ = some (.int .i64 a0_0) := (blk_cell (blk_alloc BK_aB.out _) 0).trans rfl
 have czBK_aB_1 : (w5.alloc (.cells #[.int .i64 r0_0, .slice A4_ s0_1.length c4_] 51)).cell? ⟨w.heap.size, 1, none⟩ = some (.int .i64 a0_1) := (blk_cell (blk_alloc BK_aB.out _) 1).trans rfl
 have czBK_aB_2 : (w5.alloc (.cells #[.int .i64 r0_0, .slice A4_ s0_1.length c4_] 51)).cell? ⟨w.heap.size, 2, none⟩ = some (.slice A0_2 l0_2.length c0_2) := (blk_cell (blk_alloc BK_aB.out _) 2).trans rfl
 have czBK_w0_0 : (w5.alloc (.cells #[.int .i64 r0_0, .slice A4_ s0_1.length c4_] 51)).cell? ⟨w3.heap.size, 0, none⟩ = some (.int .i64 r0_0) := (blk_cell (blk_alloc BK_w0.out _) 0).trans rfl
 have czBK_w0_1 : (w5.alloc (.cells #[.int .i64 r0_0, .slice A4_ s0_1.length c4_] 51)).cell? ⟨w3.heap.size, 1, none⟩ = some (.slice A2_ r0_1.length c2_) := (blk_cell (blk_alloc BK_w0.out _) 1).trans rfl
 have czBK_x0_0 : (w5.alloc (.cells #[.int .i64 r0_0, .slice A4_ s0_1.length c4_] 51)).cell? ⟨w4.heap.size, 0, none⟩ = some (.int .i64 a0_0) := (blk_cell (blk_alloc BK_x0.out _) 0).trans rfl
 have czBK_x0_1 : (w5.alloc (.cells #[.int .i64 r0_0, .slice A4_ s0_1.length c4_] 51)).cell? ⟨w4.heap.size, 1, none⟩ = some (.int .i64 a0_1) := (blk_cell (blk_alloc BK_x0.out _) 1).trans rfl
 have czBK_x0_2 : (w5.alloc (.cells #[.int .i64 r0_0, .slice A4_ s0_1.length c4_] 51)).cell? ⟨w4.heap.size, 2, none⟩ = some (.slice A3_ ml0_2.length c3_) := (blk_cell (blk_alloc BK_x0.out _) 2).trans rfl
 go_wp2_with fail
 refine (laws_eqTable.calls k _ _ _ _ _ _ _ _ _ _ (Kd.C_below (Kd.R_reads' F4.out).2.2 Own.bel) (Kd.R_reads' F4.out).2.1 (Kd.C_below (Kd.R_reads' F2.out).2.2 Own.bel) (Kd.R_reads' F2.out).2.1 He_eq_w0.out).mono ?_
 rintro e w6 ⟨rfl, hb⟩
 clear czBK_aB_0 czBK_aB_1 czBK_aB_2 czBK_w0_0 czBK_w0_1 czBK_x0_0 czBK_x0_1 czBK_x0_2
 have BK_g0 := Aside0.mk (blk_below (g := w5.heap.size) (o := .cells #[.int .i64 r0_0, .slice A4_ s0_1.length c4_] 51 (0, 0)) (by (repeat (first | with_reducible refine blk_drewN ?_ _ | with_reducible refine blk_drew ?_)); exact (blk_new _ _)) hb)
 have HG_BK_g0 : Aside0 (w5.heap.size < w6.heap.size) := ⟨blk_lt BK_g0.out⟩
 have HW := Aside0.mk (below_step (w := w5) Own.bel hb)
 have HZ6 : Aside0 (w5.heap.size ≤ w6.heap.size) := ⟨HW.out.size⟩
 replace HB := Aside0.mk (below_step HB.out HW.out)
 replace F1 := Aside0.mk (Kd.R_below F1.out HW.out)
 replace F2 := Aside0.mk (Kd.R_below F2.out HW.out)
 replace F3 := Aside0.mk (Kd.R_below F3.out HW.out)
 replace F4 := Aside0.mk (Kd.R_below F4.out HW.out)
 replace BK_aB := Aside0.mk (blk_below BK_aB.out HW.out)
 replace BK_w0 := Aside0.mk (blk_below BK_w0.out HW.out)
 replace BK_x0 := Aside0.mk (blk_below BK_x0.out HW.out)
 clear hb HW
 have czBK_aB_0 : w6.cell? ⟨w.heap.size, 0, none⟩ = some (.int .i64 a0_0) := (blk_cell BK_aB.out 0).trans rfl
 have czBK_aB_1 : w6.cell? ⟨w.heap.size, 1, none⟩ = some (.int .i64 a0_1) := (blk_cell BK_aB.out 1).trans rfl
 have czBK_aB_2 : w6.cell? ⟨w.heap.size, 2, none⟩ = some (.slice A0_2 l0_2.length c0_2) := (blk_cell BK_aB.out 2).trans rfl
 have czBK_w0_0 : w6.cell? ⟨w3.heap.size, 0, none⟩ = some (.int .i64 r0_0) := (blk_cell BK_w0.out 0).trans rfl
 have czBK_w0_1 : w6.cell? ⟨w3.heap.size, 1, none⟩ = some (.slice A2_ r0_1.length c2_) := (blk_cell BK_w0.out 1).trans rfl
 have czBK_x0_0 : w6.cell? ⟨w4.heap.size, 0, none⟩ = some (.int .i64 a0_0) := (blk_cell BK_x0.out 0).trans rfl
 have czBK_x0_1 : w6.cell? ⟨w4.heap.size, 1, none⟩ = some (.int .i64 a0_1) := (blk_cell BK_x0.out 1).trans rfl
 have czBK_x0_2 : w6.cell? ⟨w4.heap.size, 2, none⟩ = some (.slice A3_ ml0_2.length c3_) := (blk_cell BK_x0.out 2).trans rfl
 have czBK_g0_0 : w6.cell? ⟨w5.heap.size, 0, none⟩ = some (.int .i64 r0_0) := (blk_cell BK_g0.out 0).trans rfl
 have czBK_g0_1 : w6.cell? ⟨w5.heap.size, 1, none⟩ = some (.slice A4_ s0_1.length c4_) := (blk_cell BK_g0.out 1).trans rfl
 go_wp2_with fail
 refine start_ (n := 5) (S := fun w' => w'.cell? ⟨w4.heap.size, 0, none⟩ = some (.int .i64 a0_0) ∧ w'.cell? ⟨w4.heap.size, 1, none⟩ = some (.int .i64 a0_1) ∧ w'.cell? ⟨w4.heap.size, 2, none⟩ = some (.slice A3_ ml0_2.length c3_) ∧ w'.cell? ⟨w.heap.size, 0, none⟩ = some (.int .i64 a0_0) ∧ w'.cell? ⟨w.heap.size, 1, none⟩ = some (.int .i64 a0_1) ∧ w'.cell? ⟨w.heap.size, 2, none⟩ = some (.slice A0_2 l0_2.length c0_2)) (ds := []) #[false,false,false,false,false] (by kernel_rfl) rfl rfl ⟨(blk_cell BK_x0.out 0).trans rfl, (blk_cell BK_x0.out 1).trans rfl, (blk_cell BK_x0.out 2).trans rfl, (blk_cell BK_aB.out 0).trans rfl, (blk_cell BK_aB.out 1).trans rfl, (blk_cell BK_aB.out 2).trans rfl⟩ (fun hHeld => ?_)
 refine Own.anew_ (wN := w6) Own.bel hHeld (fun w7 hb hHeld => ?_)
 clear czBK_aB_0 czBK_aB_1 czBK_aB_2 czBK_w0_0 czBK_w0_1 czBK_x0_0 czBK_x0_1 czBK_x0_2 czBK_g0_0 czBK_g0_1
 have HW := Aside0.mk hb
 have HZ7 : Aside0 (w6.heap.size ≤ w7.heap.size) := ⟨HW.out.size⟩
 replace HB := Aside0.mk (below_step HB.out HW.out)
 replace F1 := Aside0.mk (Kd.R_below F1.out HW.out)
 replace F2 := Aside0.mk (Kd.R_below F2.out HW.out)
 replace F3 := Aside0.mk (Kd.R_below F3.out HW.out)
 replace F4 := Aside0.mk (Kd.R_below F4.out HW.out)
 replace BK_aB := Aside0.mk (blk_below BK_aB.out HW.out)
 replace BK_w0 := Aside0.mk (blk_below BK_w0.out HW.out)
 replace BK_x0 := Aside0.mk (blk_below BK_x0.out HW.out)
 replace BK_g0 := Aside0.mk (blk_below BK_g0.out HW.out)
 clear hb HW
 refine Own.tk_ (i := 0) (N := some 49) #[true,false,false,false,false] hHeld ?_
 refine Own.tk_ (i := 1) (N := some 50) #[true,true,false,false,false] hHeld ?_
 refine one_ (i := 2) (N := some 51) #[true,true,true,false,false] rfl rfl (by kernel_rfl) (by decide) (fun K hK => ?_)
 refine goes_ Try.func20 (by kernel_rfl) rfl #[.agg #[.int .i64 a0_0, .int .i64 a0_1, .slice A0_2 l0_2.length c0_2]] (by rfl) rfl rfl Own.mapd ?_
 with_reducible refine (laws_toBoard.calls k _ _ _ _ _ _ _ _ _ (Kd.C_below HR0_2.out (below_step HB.out Own.bel)) HC0_2.out He_to_aB.out).mono ?_
 rintro e w8 ⟨vq7_0, rfl, hf5, hb⟩
 refine ⟨_, rfl, ?_⟩
 have HN := Aside0.mk HB.out.size
 have HW := Aside0.mk (below_step (w := w7) Own.bel hb)
 have HZ8 : Aside0 (w7.heap.size ≤ w8.heap.size) := ⟨HW.out.size⟩
 replace HB := Aside0.mk (below_step HB.out HW.out)
 replace F1 := Aside0.mk (Kd.R_below F1.out HW.out)
 replace F2 := Aside0.mk (Kd.R_below F2.out HW.out)
 replace F3 := Aside0.mk (Kd.R_below F3.out HW.out)
 replace F4 := Aside0.mk (Kd.R_below F4.out HW.out)
 replace BK_aB := Aside0.mk (blk_below BK_aB.out HW.out)
 replace BK_w0 := Aside0.mk (blk_below BK_w0.out HW.out)
 replace BK_x0 := Aside0.mk (blk_below BK_x0.out HW.out)
 replace BK_g0 := Aside0.mk (blk_below BK_g0.out HW.out)
 obtain ⟨lo5_, F5, HLO5⟩ := Own.R_iv (wN := w7) rfl hf5 HN.out Own.bel hb
 obtain ⟨A5_, c5_, e5_⟩ := Kd.R_slice F5.out
 subst e5_
 clear hb HW HN hf5
 refine hK.out _ _ ⟨(blk_cell BK_x0.out 0).trans rfl, (blk_cell BK_x0.out 1).trans rfl, (blk_cell BK_x0.out 2).trans rfl, (blk_cell BK_aB.out 0).trans rfl, (blk_cell BK_aB.out 1).trans rfl, (blk_cell BK_aB.out 2).trans rfl⟩ (fun hHeld => ?_)
 clear hK K
 refine Own.nm_ (some 51) ?_
 refine one_ (i := 3) (N := some 52) #[true,true,true,true,false] rfl rfl (by kernel_rfl) (by decide) (fun K hK => ?_)
 refine goes_ Try.func15 (by kernel_rfl) rfl #[.agg #[.int .i64 a0_0, .int .i64 a0_1, .slice A3_ ml0_2.length c3_], .agg #[.int .i64 a0_0, .int .i64 a0_1, .slice A5_ ml0_2.length c5_]] (by rfl) rfl rfl Own.mapd ?_
 with_reducible refine (laws_eqBoard.calls k _ _ _ _ _ _ _ _ _ _ _ _ (Kd.C_below (Kd.R_reads' F3.out).2.2 Own.bel) (Kd.R_reads' F3.out).2.1 (Kd.C_below (Kd.R_reads' F5.out).2.2 Own.bel) (Kd.R_reads' F5.out).2.1 He_eq_x0.out).mono ?_
 rintro e w9 ⟨rfl, hb⟩
 refine ⟨_, rfl, ?_⟩
 have HW := Aside0.mk (below_step (w := w8) Own.bel hb)
 have HZ9 : Aside0 (w8.heap.size ≤ w9.heap.size) := ⟨HW.out.size⟩
 replace HB := Aside0.mk (below_step HB.out HW.out)
 replace F1 := Aside0.mk (Kd.R_below F1.out HW.out)
 replace F2 := Aside0.mk (Kd.R_below F2.out HW.out)
 replace F3 := Aside0.mk (Kd.R_below F3.out HW.out)
 replace F4 := Aside0.mk (Kd.R_below F4.out HW.out)
 replace BK_aB := Aside0.mk (blk_below BK_aB.out HW.out)
 replace BK_w0 := Aside0.mk (blk_below BK_w0.out HW.out)
 replace BK_x0 := Aside0.mk (blk_below BK_x0.out HW.out)
 replace BK_g0 := Aside0.mk (blk_below BK_g0.out HW.out)
 clear hb HW
 refine hK.out _ _ ⟨(blk_cell BK_x0.out 0).trans rfl, (blk_cell BK_x0.out 1).trans rfl, (blk_cell BK_x0.out 2).trans rfl, (blk_cell BK_aB.out 0).trans rfl, (blk_cell BK_aB.out 1).trans rfl, (blk_cell BK_aB.out 2).trans rfl⟩ (fun hHeld => ?_)
 clear hK K
 refine Own.nm_ (some 52) ?_
 refine Own.pu_ (i := 4) (N := some 53) #[true,true,true,true,true] ?_
 refine done_ (by kernel_rfl) ?_
 clear hHeld
 have czBK_aB_0 : w9.cell? ⟨w.heap.size, 0, none⟩ = some (.int .i64 a0_0) := (blk_cell BK_aB.out 0).trans rfl
 have czBK_aB_1 : w9.cell? ⟨w.heap.size, 1, none⟩ = some (.int .i64 a0_1) := (blk_cell BK_aB.out 1).trans rfl
 have czBK_aB_2 : w9.cell? ⟨w.heap.size, 2, none⟩ = some (.slice A0_2 l0_2.length c0_2) := (blk_cell BK_aB.out 2).trans rfl
 have czBK_w0_0 : w9.cell? ⟨w3.heap.size, 0, none⟩ = some (.int .i64 r0_0) := (blk_cell BK_w0.out 0).trans rfl
 have czBK_w0_1 : w9.cell? ⟨w3.heap.size, 1, none⟩ = some (.slice A2_ r0_1.length c2_) := (blk_cell BK_w0.out 1).trans rfl
 have czBK_x0_0 : w9.cell? ⟨w4.heap.size, 0, none⟩ = some (.int .i64 a0_0) := (blk_cell BK_x0.out 0).trans rfl
 have czBK_x0_1 : w9.cell? ⟨w4.heap.size, 1, none⟩ = some (.int .i64 a0_1) := (blk_cell BK_x0.out 1).trans rfl
 have czBK_x0_2 : w9.cell? ⟨w4.heap.size, 2, none⟩ = some (.slice A3_ ml0_2.length c3_) := (blk_cell BK_x0.out 2).trans rfl
 have czBK_g0_0 : w9.cell? ⟨w5.heap.size, 0, none⟩ = some (.int .i64 r0_0) := (blk_cell BK_g0.out 0).trans rfl
 have czBK_g0_1 : w9.cell? ⟨w5.heap.size, 1, none⟩ = some (.slice A4_ s0_1.length c4_) := (blk_cell BK_g0.out 1).trans rfl
 go_wp2_with fail
 refine (laws_markBoard.calls k _ _ _ _ _ _ _ _ w _ (below_step HB.out Own.bel) (Kd.R_below F3.out Own.bel) He_mark_x0.out).mono ?_
 rintro e w10 ⟨rfl, hf_F3, hb, hk⟩
 clear czBK_aB_0 czBK_aB_1 czBK_aB_2 czBK_w0_0 czBK_w0_1 czBK_x0_0 czBK_x0_1 czBK_x0_2 czBK_g0_0 czBK_g0_1
 have HW := Aside0.mk ((Kept.of_below (w := w9) Own.bel _).then_ hk (fun _ h_ => .inl h_))
 have HZ10 : Aside0 (w9.heap.size ≤ w10.heap.size) := ⟨HW.out.1⟩
 replace HB := Aside0.mk hb
 replace F1 := Aside0.mk (Kd.R_kept F1.out HW.out (fun k_ h1 h2 => by have z1_ := HZ1.out; have z2_ := HZ2.out; have z3_ := HZ3.out; have z4_ := HZ4.out; have z5_ := HZ5.out; have z6_ := HZ6.out; have z7_ := HZ7.out; have z8_ := HZ8.out; have z9_ := HZ9.out; have zg0_ := HG_BK_aB.out; have zg1_ := HG_BK_w0.out; have zg2_ := HG_BK_x0.out; have zg3_ := HG_BK_g0.out; have zl0_ := HLO1.out; have zl1_ := HLO2.out; have zl2_ := HLO3.out; have zl3_ := HLO4.out; have zl4_ := HLO5.out; omega))
 replace F2 := Aside0.mk (Kd.R_kept F2.out HW.out (fun k_ h1 h2 => by have z1_ := HZ1.out; have z2_ := HZ2.out; have z3_ := HZ3.out; have z4_ := HZ4.out; have z5_ := HZ5.out; have z6_ := HZ6.out; have z7_ := HZ7.out; have z8_ := HZ8.out; have z9_ := HZ9.out; have zg0_ := HG_BK_aB.out; have zg1_ := HG_BK_w0.out; have zg2_ := HG_BK_x0.out; have zg3_ := HG_BK_g0.out; have zl0_ := HLO1.out; have zl1_ := HLO2.out; have zl2_ := HLO3.out; have zl3_ := HLO4.out; have zl4_ := HLO5.out; omega))
 replace F4 := Aside0.mk (Kd.R_kept F4.out HW.out (fun k_ h1 h2 => by have z1_ := HZ1.out; have z2_ := HZ2.out; have z3_ := HZ3.out; have z4_ := HZ4.out; have z5_ := HZ5.out; have z6_ := HZ6.out; have z7_ := HZ7.out; have z8_ := HZ8.out; have z9_ := HZ9.out; have zg0_ := HG_BK_aB.out; have zg1_ := HG_BK_w0.out; have zg2_ := HG_BK_x0.out; have zg3_ := HG_BK_g0.out; have zl0_ := HLO1.out; have zl1_ := HLO2.out; have zl2_ := HLO3.out; have zl3_ := HLO4.out; have zl4_ := HLO5.out; omega))
 replace BK_aB := Aside0.mk (blk_kept BK_aB.out HW.out (fun h2 => by have z1_ := HZ1.out; have z2_ := HZ2.out; have z3_ := HZ3.out; have z4_ := HZ4.out; have z5_ := HZ5.out; have z6_ := HZ6.out; have z7_ := HZ7.out; have z8_ := HZ8.out; have z9_ := HZ9.out; have zg0_ := HG_BK_aB.out; have zg1_ := HG_BK_w0.out; have zg2_ := HG_BK_x0.out; have zg3_ := HG_BK_g0.out; have zl0_ := HLO1.out; have zl1_ := HLO2.out; have zl2_ := HLO3.out; have zl3_ := HLO4.out; have zl4_ := HLO5.out; omega))
 replace BK_w0 := Aside0.mk (blk_kept BK_w0.out HW.out (fun h2 => by have z1_ := HZ1.out; have z2_ := HZ2.out; have z3_ := HZ3.out; have z4_ := HZ4.out; have z5_ := HZ5.out; have z6_ := HZ6.out; have z7_ := HZ7.out; have z8_ := HZ8.out; have z9_ := HZ9.out; have zg0_ := HG_BK_aB.out; have zg1_ := HG_BK_w0.out; have zg2_ := HG_BK_x0.out; have zg3_ := HG_BK_g0.out; have zl0_ := HLO1.out; have zl1_ := HLO2.out; have zl2_ := HLO3.out; have zl3_ := HLO4.out; have zl4_ := HLO5.out; omega))
 replace BK_x0 := Aside0.mk (blk_kept BK_x0.out HW.out (fun h2 => by have z1_ := HZ1.out; have z2_ := HZ2.out; have z3_ := HZ3.out; have z4_ := HZ4.out; have z5_ := HZ5.out; have z6_ := HZ6.out; have z7_ := HZ7.out; have z8_ := HZ8.out; have z9_ := HZ9.out; have zg0_ := HG_BK_aB.out; have zg1_ := HG_BK_w0.out; have zg2_ := HG_BK_x0.out; have zg3_ := HG_BK_g0.out; have zl0_ := HLO1.out; have zl1_ := HLO2.out; have zl2_ := HLO3.out; have zl3_ := HLO4.out; have zl4_ := HLO5.out; omega))
 replace BK_g0 := Aside0.mk (blk_kept BK_g0.out HW.out (fun h2 => by have z1_ := HZ1.out; have z2_ := HZ2.out; have z3_ := HZ3.out; have z4_ := HZ4.out; have z5_ := HZ5.out; have z6_ := HZ6.out; have z7_ := HZ7.out; have z8_ := HZ8.out; have z9_ := HZ9.out; have zg0_ := HG_BK_aB.out; have zg1_ := HG_BK_w0.out; have zg2_ := HG_BK_x0.out; have zg3_ := HG_BK_g0.out; have zl0_ := HLO1.out; have zl1_ := HLO2.out; have zl2_ := HLO3.out; have zl3_ := HLO4.out; have zl4_ := HLO5.out; omega))
 replace F3 := Aside0.mk (Kd.R_reok rfl hf_F3 F3.out.1)
 have HQ := Aside0.mk (Kd.R_reads' F3.out).1
 rw [HQ.out] at F3
 rw [HQ.out] at BK_x0
 clear HQ
 clear hb hk HW hf_F3
 have czBK_aB_0 : w10.cell? ⟨w.heap.size, 0, none⟩ = some (.int .i64 a0_0) := (blk_cell BK_aB.out 0).trans rfl
 have czBK_aB_1 : w10.cell? ⟨w.heap.size, 1, none⟩ = some (.int .i64 a0_1) := (blk_cell BK_aB.out 1).trans rfl
 have czBK_aB_2 : w10.cell? ⟨w.heap.size, 2, none⟩ = some (.slice A0_2 l0_2.length c0_2) := (blk_cell BK_aB.out 2).trans rfl
 have czBK_w0_0 : w10.cell? ⟨w3.heap.size, 0, none⟩ = some (.int .i64 r0_0) := (blk_cell BK_w0.out 0).trans rfl
 have czBK_w0_1 : w10.cell? ⟨w3.heap.size, 1, none⟩ = some (.slice A2_ r0_1.length c2_) := (blk_cell BK_w0.out 1).trans rfl
 have czBK_x0_0 : w10.cell? ⟨w4.heap.size, 0, none⟩ = some (.int .i64 a0_0) := (blk_cell BK_x0.out 0).trans rfl
 have czBK_x0_1 : w10.cell? ⟨w4.heap.size, 1, none⟩ = some (.int .i64 a0_1) := (blk_cell BK_x0.out 1).trans rfl
 have czBK_x0_2 : w10.cell? ⟨w4.heap.size, 2, none⟩ = some (.slice A3_ nx0_2.length c3_) := (blk_cell BK_x0.out 2).trans rfl
 have czBK_g0_0 : w10.cell? ⟨w5.heap.size, 0, none⟩ = some (.int .i64 r0_0) := (blk_cell BK_g0.out 0).trans rfl
 have czBK_g0_1 : w10.cell? ⟨w5.heap.size, 1, none⟩ = some (.slice A4_ s0_1.length c4_) := (blk_cell BK_g0.out 1).trans rfl
 go_wp2_with fail
 refine (laws_eqTable.calls k _ _ _ _ _ _ _ _ _ _ (Kd.C_below (Kd.R_reads' F4.out).2.2 Own.bel) (Kd.R_reads' F4.out).2.1 (Kd.C_below (Kd.R_reads' F2.out).2.2 Own.bel) (Kd.R_reads' F2.out).2.1 He_eq_w0.out).mono ?_
 rintro e w11 ⟨rfl, hb⟩
 clear czBK_aB_0 czBK_aB_1 czBK_aB_2 czBK_w0_0 czBK_w0_1 czBK_x0_0 czBK_x0_1 czBK_x0_2 czBK_g0_0 czBK_g0_1
 have HW := Aside0.mk (below_step (w := w10) Own.bel hb)
 have HZ11 : Aside0 (w10.heap.size ≤ w11.heap.size) := ⟨HW.out.size⟩
 replace HB := Aside0.mk (below_step HB.out HW.out)
 replace F1 := Aside0.mk (Kd.R_below F1.out HW.out)
 replace F2 := Aside0.mk (Kd.R_below F2.out HW.out)
 replace F3 := Aside0.mk (Kd.R_below F3.out HW.out)
 replace F4 := Aside0.mk (Kd.R_below F4.out HW.out)
 replace BK_aB := Aside0.mk (blk_below BK_aB.out HW.out)
 replace BK_w0 := Aside0.mk (blk_below BK_w0.out HW.out)
 replace BK_x0 := Aside0.mk (blk_below BK_x0.out HW.out)
 replace BK_g0 := Aside0.mk (blk_below BK_g0.out HW.out)
 clear hb HW
 have czBK_aB_0 : w11.cell? ⟨w.heap.size, 0, none⟩ = some (.int .i64 a0_0) := (blk_cell BK_aB.out 0).trans rfl
 have czBK_aB_1 : w11.cell? ⟨w.heap.size, 1, none⟩ = some (.int .i64 a0_1) := (blk_cell BK_aB.out 1).trans rfl
 have czBK_aB_2 : w11.cell? ⟨w.heap.size, 2, none⟩ = some (.slice A0_2 l0_2.length c0_2) := (blk_cell BK_aB.out 2).trans rfl
 have czBK_w0_0 : w11.cell? ⟨w3.heap.size, 0, none⟩ = some (.int .i64 r0_0) := (blk_cell BK_w0.out 0).trans rfl
 have czBK_w0_1 : w11.cell? ⟨w3.heap.size, 1, none⟩ = some (.slice A2_ r0_1.length c2_) := (blk_cell BK_w0.out 1).trans rfl
 have czBK_x0_0 : w11.cell? ⟨w4.heap.size, 0, none⟩ = some (.int .i64 a0_0) := (blk_cell BK_x0.out 0).trans rfl
 have czBK_x0_1 : w11.cell? ⟨w4.heap.size, 1, none⟩ = some (.int .i64 a0_1) := (blk_cell BK_x0.out 1).trans rfl
 have czBK_x0_2 : w11.cell? ⟨w4.heap.size, 2, none⟩ = some (.slice A3_ nx0_2.length c3_) := (blk_cell BK_x0.out 2).trans rfl
 have czBK_g0_0 : w11.cell? ⟨w5.heap.size, 0, none⟩ = some (.int .i64 r0_0) := (blk_cell BK_g0.out 0).trans rfl
 have czBK_g0_1 : w11.cell? ⟨w5.heap.size, 1, none⟩ = some (.slice A4_ s0_1.length c4_) := (blk_cell BK_g0.out 1).trans rfl
 go_wp2_with fail
 refine (laws_markTable.calls k _ _ _ _ _ _ _ w _ (below_step HB.out Own.bel) (Kd.R_below F4.out Own.bel) He_mark_g0.out).mono ?_
 rintro e w12 ⟨rfl, hf_F4, hb, hk⟩
 clear czBK_aB_0 czBK_aB_1 czBK_aB_2 czBK_w0_0 czBK_w0_1 czBK_x0_0 czBK_x0_1 czBK_x0_2 czBK_g0_0 czBK_g0_1
 have HW := Aside0.mk ((Kept.of_below (w := w11) Own.bel _).then_ hk (fun _ h_ => .inl h_))
 have HZ12 : Aside0 (w11.heap.size ≤ w12.heap.size) := ⟨HW.out.1⟩
 replace HB := Aside0.mk hb
 replace F1 := Aside0.mk (Kd.R_kept F1.out HW.out (fun k_ h1 h2 => by have z1_ := HZ1.out; have z2_ := HZ2.out; have z3_ := HZ3.out; have z4_ := HZ4.out; have z5_ := HZ5.out; have z6_ := HZ6.out; have z7_ := HZ7.out; have z8_ := HZ8.out; have z9_ := HZ9.out; have z10_ := HZ10.out; have z11_ := HZ11.out; have zg0_ := HG_BK_aB.out; have zg1_ := HG_BK_w0.out; have zg2_ := HG_BK_x0.out; have zg3_ := HG_BK_g0.out; have zl0_ := HLO1.out; have zl1_ := HLO2.out; have zl2_ := HLO3.out; have zl3_ := HLO4.out; have zl4_ := HLO5.out; omega))
 replace F2 := Aside0.mk (Kd.R_kept F2.out HW.out (fun k_ h1 h2 => by have z1_ := HZ1.out; have z2_ := HZ2.out; have z3_ := HZ3.out; have z4_ := HZ4.out; have z5_ := HZ5.out; have z6_ := HZ6.out; have z7_ := HZ7.out; have z8_ := HZ8.out; have z9_ := HZ9.out; have z10_ := HZ10.out; have z11_ := HZ11.out; have zg0_ := HG_BK_aB.out; have zg1_ := HG_BK_w0.out; have zg2_ := HG_BK_x0.out; have zg3_ := HG_BK_g0.out; have zl0_ := HLO1.out; have zl1_ := HLO2.out; have zl2_ := HLO3.out; have zl3_ := HLO4.out; have zl4_ := HLO5.out; omega))
 replace F3 := Aside0.mk (Kd.R_kept F3.out HW.out (fun k_ h1 h2 => by have z1_ := HZ1.out; have z2_ := HZ2.out; have z3_ := HZ3.out; have z4_ := HZ4.out; have z5_ := HZ5.out; have z6_ := HZ6.out; have z7_ := HZ7.out; have z8_ := HZ8.out; have z9_ := HZ9.out; have z10_ := HZ10.out; have z11_ := HZ11.out; have zg0_ := HG_BK_aB.out; have zg1_ := HG_BK_w0.out; have zg2_ := HG_BK_x0.out; have zg3_ := HG_BK_g0.out; have zl0_ := HLO1.out; have zl1_ := HLO2.out; have zl2_ := HLO3.out; have zl3_ := HLO4.out; have zl4_ := HLO5.out; omega))
 replace BK_aB := Aside0.mk (blk_kept BK_aB.out HW.out (fun h2 => by have z1_ := HZ1.out; have z2_ := HZ2.out; have z3_ := HZ3.out; have z4_ := HZ4.out; have z5_ := HZ5.out; have z6_ := HZ6.out; have z7_ := HZ7.out; have z8_ := HZ8.out; have z9_ := HZ9.out; have z10_ := HZ10.out; have z11_ := HZ11.out; have zg0_ := HG_BK_aB.out; have zg1_ := HG_BK_w0.out; have zg2_ := HG_BK_x0.out; have zg3_ := HG_BK_g0.out; have zl0_ := HLO1.out; have zl1_ := HLO2.out; have zl2_ := HLO3.out; have zl3_ := HLO4.out; have zl4_ := HLO5.out; omega))
 replace BK_w0 := Aside0.mk (blk_kept BK_w0.out HW.out (fun h2 => by have z1_ := HZ1.out; have z2_ := HZ2.out; have z3_ := HZ3.out; have z4_ := HZ4.out; have z5_ := HZ5.out; have z6_ := HZ6.out; have z7_ := HZ7.out; have z8_ := HZ8.out; have z9_ := HZ9.out; have z10_ := HZ10.out; have z11_ := HZ11.out; have zg0_ := HG_BK_aB.out; have zg1_ := HG_BK_w0.out; have zg2_ := HG_BK_x0.out; have zg3_ := HG_BK_g0.out; have zl0_ := HLO1.out; have zl1_ := HLO2.out; have zl2_ := HLO3.out; have zl3_ := HLO4.out; have zl4_ := HLO5.out; omega))
 replace BK_x0 := Aside0.mk (blk_kept BK_x0.out HW.out (fun h2 => by have z1_ := HZ1.out; have z2_ := HZ2.out; have z3_ := HZ3.out; have z4_ := HZ4.out; have z5_ := HZ5.out; have z6_ := HZ6.out; have z7_ := HZ7.out; have z8_ := HZ8.out; have z9_ := HZ9.out; have z10_ := HZ10.out; have z11_ := HZ11.out; have zg0_ := HG_BK_aB.out; have zg1_ := HG_BK_w0.out; have zg2_ := HG_BK_x0.out; have zg3_ := HG_BK_g0.out; have zl0_ := HLO1.out; have zl1_ := HLO2.out; have zl2_ := HLO3.out; have zl3_ := HLO4.out; have zl4_ := HLO5.out; omega))
 replace BK_g0 := Aside0.mk (blk_kept BK_g0.out HW.out (fun h2 => by have z1_ := HZ1.out; have z2_ := HZ2.out; have z3_ := HZ3.out; have z4_ := HZ4.out; have z5_ := HZ5.out; have z6_ := HZ6.out; have z7_ := HZ7.out; have z8_ := HZ8.out; have z9_ := HZ9.out; have z10_ := HZ10.out; have z11_ := HZ11.out; have zg0_ := HG_BK_aB.out; have zg1_ := HG_BK_w0.out; have zg2_ := HG_BK_x0.out; have zg3_ := HG_BK_g0.out; have zl0_ := HLO1.out; have zl1_ := HLO2.out; have zl2_ := HLO3.out; have zl3_ := HLO4.out; have zl4_ := HLO5.out; omega))
 replace F4 := Aside0.mk (Own.R_ok hf_F4 F4.out.1)
 have HQ := Aside0.mk (Kd.R_reads' F4.out).1
 rw [HQ.out] at F4
 rw [HQ.out] at BK_g0
 clear HQ
 clear hb hk HW hf_F4
 have czBK_aB_0 : w12.cell? ⟨w.heap.size, 0, none⟩ = some (.int .i64 a0_0) := (blk_cell BK_aB.out 0).trans rfl
 have czBK_aB_1 : w12.cell? ⟨w.heap.size, 1, none⟩ = some (.int .i64 a0_1) := (blk_cell BK_aB.out 1).trans rfl
 have czBK_aB_2 : w12.cell? ⟨w.heap.size, 2, none⟩ = some (.slice A0_2 l0_2.length c0_2) := (blk_cell BK_aB.out 2).trans rfl
 have czBK_w0_0 : w12.cell? ⟨w3.heap.size, 0, none⟩ = some (.int .i64 r0_0) := (blk_cell BK_w0.out 0).trans rfl
 have czBK_w0_1 : w12.cell? ⟨w3.heap.size, 1, none⟩ = some (.slice A2_ r0_1.length c2_) := (blk_cell BK_w0.out 1).trans rfl
 have czBK_x0_0 : w12.cell? ⟨w4.heap.size, 0, none⟩ = some (.int .i64 a0_0) := (blk_cell BK_x0.out 0).trans rfl
 have czBK_x0_1 : w12.cell? ⟨w4.heap.size, 1, none⟩ = some (.int .i64 a0_1) := (blk_cell BK_x0.out 1).trans rfl
 have czBK_x0_2 : w12.cell? ⟨w4.heap.size, 2, none⟩ = some (.slice A3_ nx0_2.length c3_) := (blk_cell BK_x0.out 2).trans rfl
 have czBK_g0_0 : w12.cell? ⟨w5.heap.size, 0, none⟩ = some (.int .i64 r0_0) := (blk_cell BK_g0.out 0).trans rfl
 have czBK_g0_1 : w12.cell? ⟨w5.heap.size, 1, none⟩ = some (.slice A4_ ng0_1.length c4_) := (blk_cell BK_g0.out 1).trans rfl
 go_wp2_with fail
 refine (laws_heldTable.calls k _ _ _ _ _ _ _ (Kd.C_below (Kd.R_reads' F4.out).2.2 Own.bel) (Kd.R_reads' F4.out).2.1 He_held_g0.out).mono ?_
 rintro e w13 ⟨rfl, hb⟩
 clear czBK_aB_0 czBK_aB_1 czBK_aB_2 czBK_w0_0 czBK_w0_1 czBK_x0_0 czBK_x0_1 czBK_x0_2 czBK_g0_0 czBK_g0_1
 have HW := Aside0.mk (below_step (w := w12) Own.bel hb)
 have HZ13 : Aside0 (w12.heap.size ≤ w13.heap.size) := ⟨HW.out.size⟩
 replace HB := Aside0.mk (below_step HB.out HW.out)
 replace F1 := Aside0.mk (Kd.R_below F1.out HW.out)
 replace F2 := Aside0.mk (Kd.R_below F2.out HW.out)
 replace F3 := Aside0.mk (Kd.R_below F3.out HW.out)
 replace F4 := Aside0.mk (Kd.R_below F4.out HW.out)
 replace BK_aB := Aside0.mk (blk_below BK_aB.out HW.out)
 replace BK_w0 := Aside0.mk (blk_below BK_w0.out HW.out)
 replace BK_x0 := Aside0.mk (blk_below BK_x0.out HW.out)
 replace BK_g0 := Aside0.mk (blk_below BK_g0.out HW.out)
 clear hb HW
 have czBK_aB_0 : w13.cell? ⟨w.heap.size, 0, none⟩ = some (.int .i64 a0_0) := (blk_cell BK_aB.out 0).trans rfl
 have czBK_aB_1 : w13.cell? ⟨w.heap.size, 1, none⟩ = some (.int .i64 a0_1) := (blk_cell BK_aB.out 1).trans rfl
 have czBK_aB_2 : w13.cell? ⟨w.heap.size, 2, none⟩ = some (.slice A0_2 l0_2.length c0_2) := (blk_cell BK_aB.out 2).trans rfl
 have czBK_w0_0 : w13.cell? ⟨w3.heap.size, 0, none⟩ = some (.int .i64 r0_0) := (blk_cell BK_w0.out 0).trans rfl
 have czBK_w0_1 : w13.cell? ⟨w3.heap.size, 1, none⟩ = some (.slice A2_ r0_1.length c2_) := (blk_cell BK_w0.out 1).trans rfl
 have czBK_x0_0 : w13.cell? ⟨w4.heap.size, 0, none⟩ = some (.int .i64 a0_0) := (blk_cell BK_x0.out 0).trans rfl
 have czBK_x0_1 : w13.cell? ⟨w4.heap.size, 1, none⟩ = some (.int .i64 a0_1) := (blk_cell BK_x0.out 1).trans rfl
 have czBK_x0_2 : w13.cell? ⟨w4.heap.size, 2, none⟩ = some (.slice A3_ nx0_2.length c3_) := (blk_cell BK_x0.out 2).trans rfl
 have czBK_g0_0 : w13.cell? ⟨w5.heap.size, 0, none⟩ = some (.int .i64 r0_0) := (blk_cell BK_g0.out 0).trans rfl
 have czBK_g0_1 : w13.cell? ⟨w5.heap.size, 1, none⟩ = some (.slice A4_ ng0_1.length c4_) := (blk_cell BK_g0.out 1).trans rfl
 go_wp2_with fail
 refine (laws_toBoard.calls k _ _ _ _ _ _ _ _ _ (Kd.C_below HR0_2.out (below_step HB.out Own.bel)) HC0_2.out He_to_aB.out).mono ?_
 rintro e w14 ⟨vt339_0, rfl, hf6, hb⟩
 clear czBK_aB_0 czBK_aB_1 czBK_aB_2 czBK_w0_0 czBK_w0_1 czBK_x0_0 czBK_x0_1 czBK_x0_2 czBK_g0_0 czBK_g0_1
 have HN := Aside0.mk HB.out.size
 have HW := Aside0.mk (below_step (w := w13) Own.bel hb)
 have HZ14 : Aside0 (w13.heap.size ≤ w14.heap.size) := ⟨HW.out.size⟩
 replace HB := Aside0.mk (below_step HB.out HW.out)
 replace F1 := Aside0.mk (Kd.R_below F1.out HW.out)
 replace F2 := Aside0.mk (Kd.R_below F2.out HW.out)
 replace F3 := Aside0.mk (Kd.R_below F3.out HW.out)
 replace F4 := Aside0.mk (Kd.R_below F4.out HW.out)
 replace BK_aB := Aside0.mk (blk_below BK_aB.out HW.out)
 replace BK_w0 := Aside0.mk (blk_below BK_w0.out HW.out)
 replace BK_x0 := Aside0.mk (blk_below BK_x0.out HW.out)
 replace BK_g0 := Aside0.mk (blk_below BK_g0.out HW.out)
 obtain ⟨lo6_, F6, HLO6⟩ := Own.R_iv (wN := w13) rfl hf6 HN.out Own.bel hb
 obtain ⟨A6_, c6_, e6_⟩ := Kd.R_slice F6.out
 subst e6_
 clear hb HW HN hf6
 have czBK_aB_0 : w14.cell? ⟨w.heap.size, 0, none⟩ = some (.int .i64 a0_0) := (blk_cell BK_aB.out 0).trans rfl
 have czBK_aB_1 : w14.cell? ⟨w.heap.size, 1, none⟩ = some (.int .i64 a0_1) := (blk_cell BK_aB.out 1).trans rfl
 have czBK_aB_2 : w14.cell? ⟨w.heap.size, 2, none⟩ = some (.slice A0_2 l0_2.length c0_2) := (blk_cell BK_aB.out 2).trans rfl
 have czBK_w0_0 : w14.cell? ⟨w3.heap.size, 0, none⟩ = some (.int .i64 r0_0) := (blk_cell BK_w0.out 0).trans rfl
 have czBK_w0_1 : w14.cell? ⟨w3.heap.size, 1, none⟩ = some (.slice A2_ r0_1.length c2_) := (blk_cell BK_w0.out 1).trans rfl
 have czBK_x0_0 : w14.cell? ⟨w4.heap.size, 0, none⟩ = some (.int .i64 a0_0) := (blk_cell BK_x0.out 0).trans rfl
 have czBK_x0_1 : w14.cell? ⟨w4.heap.size, 1, none⟩ = some (.int .i64 a0_1) := (blk_cell BK_x0.out 1).trans rfl
 have czBK_x0_2 : w14.cell? ⟨w4.heap.size, 2, none⟩ = some (.slice A3_ nx0_2.length c3_) := (blk_cell BK_x0.out 2).trans rfl
 have czBK_g0_0 : w14.cell? ⟨w5.heap.size, 0, none⟩ = some (.int .i64 r0_0) := (blk_cell BK_g0.out 0).trans rfl
 have czBK_g0_1 : w14.cell? ⟨w5.heap.size, 1, none⟩ = some (.slice A4_ ng0_1.length c4_) := (blk_cell BK_g0.out 1).trans rfl
 go_wp2_with fail
 refine (impl_TableOfBoard.calls k _ _ _ _ _ _ _ _ _ _ _ (Kd.C_below (Kd.R_reads' F6.out).2.2 Own.bel) (Kd.R_reads' F6.out).2.1 He_impl.out).mono ?_
 rintro e w15 ⟨vh0_0, rfl, hf7, hb⟩
 clear czBK_aB_0 czBK_aB_1 czBK_aB_2 czBK_w0_0 czBK_w0_1 czBK_x0_0 czBK_x0_1 czBK_x0_2 czBK_g0_0 czBK_g0_1
 have HN := Aside0.mk HB.out.size
 have HW := Aside0.mk (below_step (w := w14) Own.bel hb)
 have HZ15 : Aside0 (w14.heap.size ≤ w15.heap.size) := ⟨HW.out.size⟩
 replace HB := Aside0.mk (below_step HB.out HW.out)
 replace F1 := Aside0.mk (Kd.R_below F1.out HW.out)
 replace F2 := Aside0.mk (Kd.R_below F2.out HW.out)
 replace F3 := Aside0.mk (Kd.R_below F3.out HW.out)
 replace F4 := Aside0.mk (Kd.R_below F4.out HW.out)
 replace F6 := Aside0.mk (Kd.R_below F6.out HW.out)
 replace BK_aB := Aside0.mk (blk_below BK_aB.out HW.out)
 replace BK_w0 := Aside0.mk (blk_below BK_w0.out HW.out)
 replace BK_x0 := Aside0.mk (blk_below BK_x0.out HW.out)
 replace BK_g0 := Aside0.mk (blk_below BK_g0.out HW.out)
 obtain ⟨lo7_, F7, HLO7⟩ := Own.R_iv (wN := w14) rfl hf7 HN.out Own.bel hb
 obtain ⟨A7_, c7_, e7_⟩ := Kd.R_slice F7.out
 subst e7_
 clear hb HW HN hf7
 have czBK_aB_0 : (w15.alloc (.cells #[.int .i64 r0_0, .slice A7_ s0_1.length c7_] 51)).cell? ⟨w.heap.size, 0, none⟩ = some (.int .i64 a0_0) := (blk_cell (blk_alloc BK_aB.out _) 0).trans rfl
 have czBK_aB_1 : (w15.alloc (.cells #[.int .i64 r0_0, .slice A7_ s0_1.length c7_] 51)).cell? ⟨w.heap.size, 1, none⟩ = some (.int .i64 a0_1) := (blk_cell (blk_alloc BK_aB.out _) 1).trans rfl
 have czBK_aB_2 : (w15.alloc (.cells #[.int .i64 r0_0, .slice A7_ s0_1.length c7_] 51)).cell? ⟨w.heap.size, 2, none⟩ = some (.slice A0_2 l0_2.length c0_2) := (blk_cell (blk_alloc BK_aB.out _) 2).trans rfl
 have czBK_w0_0 : (w15.alloc (.cells #[.int .i64 r0_0, .slice A7_ s0_1.length c7_] 51)).cell? ⟨w3.heap.size, 0, none⟩ = some (.int .i64 r0_0) := (blk_cell (blk_alloc BK_w0.out _) 0).trans rfl
 have czBK_w0_1 : (w15.alloc (.cells #[.int .i64 r0_0, .slice A7_ s0_1.length c7_] 51)).cell? ⟨w3.heap.size, 1, none⟩ = some (.slice A2_ r0_1.length c2_) := (blk_cell (blk_alloc BK_w0.out _) 1).trans rfl
 have czBK_x0_0 : (w15.alloc (.cells #[.int .i64 r0_0, .slice A7_ s0_1.length c7_] 51)).cell? ⟨w4.heap.size, 0, none⟩ = some (.int .i64 a0_0) := (blk_cell (blk_alloc BK_x0.out _) 0).trans rfl
 have czBK_x0_1 : (w15.alloc (.cells #[.int .i64 r0_0, .slice A7_ s0_1.length c7_] 51)).cell? ⟨w4.heap.size, 1, none⟩ = some (.int .i64 a0_1) := (blk_cell (blk_alloc BK_x0.out _) 1).trans rfl
 have czBK_x0_2 : (w15.alloc (.cells #[.int .i64 r0_0, .slice A7_ s0_1.length c7_] 51)).cell? ⟨w4.heap.size, 2, none⟩ = some (.slice A3_ nx0_2.length c3_) := (blk_cell (blk_alloc BK_x0.out _) 2).trans rfl
 have czBK_g0_0 : (w15.alloc (.cells #[.int .i64 r0_0, .slice A7_ s0_1.length c7_] 51)).cell? ⟨w5.heap.size, 0, none⟩ = some (.int .i64 r0_0) := (blk_cell (blk_alloc BK_g0.out _) 0).trans rfl
 have czBK_g0_1 : (w15.alloc (.cells #[.int .i64 r0_0, .slice A7_ s0_1.length c7_] 51)).cell? ⟨w5.heap.size, 1, none⟩ = some (.slice A4_ ng0_1.length c4_) := (blk_cell (blk_alloc BK_g0.out _) 1).trans rfl
 go_wp2_with fail
 refine (laws_eqTable.calls k _ _ _ _ _ _ _ _ _ _ (Kd.C_below (Kd.R_reads' F7.out).2.2 Own.bel) (Kd.R_reads' F7.out).2.1 (Kd.C_below (Kd.R_reads' F2.out).2.2 Own.bel) (Kd.R_reads' F2.out).2.1 He_eq_w0.out).mono ?_
 rintro e w16 ⟨rfl, hb⟩
 clear czBK_aB_0 czBK_aB_1 czBK_aB_2 czBK_w0_0 czBK_w0_1 czBK_x0_0 czBK_x0_1 czBK_x0_2 czBK_g0_0 czBK_g0_1
 have BK_h0 := Aside0.mk (blk_below (g := w15.heap.size) (o := .cells #[.int .i64 r0_0, .slice A7_ s0_1.length c7_] 51 (0, 0)) (by (repeat (first | with_reducible refine blk_drewN ?_ _ | with_reducible refine blk_drew ?_)); exact (blk_new _ _)) hb)
 have HG_BK_h0 : Aside0 (w15.heap.size < w16.heap.size) := ⟨blk_lt BK_h0.out⟩
 have HW := Aside0.mk (below_step (w := w15) Own.bel hb)
 have HZ16 : Aside0 (w15.heap.size ≤ w16.heap.size) := ⟨HW.out.size⟩
 replace HB := Aside0.mk (below_step HB.out HW.out)
 replace F1 := Aside0.mk (Kd.R_below F1.out HW.out)
 replace F2 := Aside0.mk (Kd.R_below F2.out HW.out)
 replace F3 := Aside0.mk (Kd.R_below F3.out HW.out)
 replace F4 := Aside0.mk (Kd.R_below F4.out HW.out)
 replace F6 := Aside0.mk (Kd.R_below F6.out HW.out)
 replace F7 := Aside0.mk (Kd.R_below F7.out HW.out)
 replace BK_aB := Aside0.mk (blk_below BK_aB.out HW.out)
 replace BK_w0 := Aside0.mk (blk_below BK_w0.out HW.out)
 replace BK_x0 := Aside0.mk (blk_below BK_x0.out HW.out)
 replace BK_g0 := Aside0.mk (blk_below BK_g0.out HW.out)
 clear hb HW
 have czBK_aB_0 : w16.cell? ⟨w.heap.size, 0, none⟩ = some (.int .i64 a0_0) := (blk_cell BK_aB.out 0).trans rfl
 have czBK_aB_1 : w16.cell? ⟨w.heap.size, 1, none⟩ = some (.int .i64 a0_1) := (blk_cell BK_aB.out 1).trans rfl
 have czBK_aB_2 : w16.cell? ⟨w.heap.size, 2, none⟩ = some (.slice A0_2 l0_2.length c0_2) := (blk_cell BK_aB.out 2).trans rfl
 have czBK_w0_0 : w16.cell? ⟨w3.heap.size, 0, none⟩ = some (.int .i64 r0_0) := (blk_cell BK_w0.out 0).trans rfl
 have czBK_w0_1 : w16.cell? ⟨w3.heap.size, 1, none⟩ = some (.slice A2_ r0_1.length c2_) := (blk_cell BK_w0.out 1).trans rfl
 have czBK_x0_0 : w16.cell? ⟨w4.heap.size, 0, none⟩ = some (.int .i64 a0_0) := (blk_cell BK_x0.out 0).trans rfl
 have czBK_x0_1 : w16.cell? ⟨w4.heap.size, 1, none⟩ = some (.int .i64 a0_1) := (blk_cell BK_x0.out 1).trans rfl
 have czBK_x0_2 : w16.cell? ⟨w4.heap.size, 2, none⟩ = some (.slice A3_ nx0_2.length c3_) := (blk_cell BK_x0.out 2).trans rfl
 have czBK_g0_0 : w16.cell? ⟨w5.heap.size, 0, none⟩ = some (.int .i64 r0_0) := (blk_cell BK_g0.out 0).trans rfl
 have czBK_g0_1 : w16.cell? ⟨w5.heap.size, 1, none⟩ = some (.slice A4_ ng0_1.length c4_) := (blk_cell BK_g0.out 1).trans rfl
 have czBK_h0_0 : w16.cell? ⟨w15.heap.size, 0, none⟩ = some (.int .i64 r0_0) := (blk_cell BK_h0.out 0).trans rfl
 have czBK_h0_1 : w16.cell? ⟨w15.heap.size, 1, none⟩ = some (.slice A7_ s0_1.length c7_) := (blk_cell BK_h0.out 1).trans rfl
 go_wp2_with fail
 refine (laws_heldTable.calls k _ _ _ _ _ _ _ (Kd.C_below (Kd.R_reads' F4.out).2.2 Own.bel) (Kd.R_reads' F4.out).2.1 He_held_g0.out).mono ?_
 rintro e w17 ⟨rfl, hb⟩
 clear czBK_aB_0 czBK_aB_1 czBK_aB_2 czBK_w0_0 czBK_w0_1 czBK_x0_0 czBK_x0_1 czBK_x0_2 czBK_g0_0 czBK_g0_1 czBK_h0_0 czBK_h0_1
 have HW := Aside0.mk (below_step (w := w16) Own.bel hb)
 have HZ17 : Aside0 (w16.heap.size ≤ w17.heap.size) := ⟨HW.out.size⟩
 replace HB := Aside0.mk (below_step HB.out HW.out)
 replace F1 := Aside0.mk (Kd.R_below F1.out HW.out)
 replace F2 := Aside0.mk (Kd.R_below F2.out HW.out)
 replace F3 := Aside0.mk (Kd.R_below F3.out HW.out)
 replace F4 := Aside0.mk (Kd.R_below F4.out HW.out)
 replace F6 := Aside0.mk (Kd.R_below F6.out HW.out)
 replace F7 := Aside0.mk (Kd.R_below F7.out HW.out)
 replace BK_aB := Aside0.mk (blk_below BK_aB.out HW.out)
 replace BK_w0 := Aside0.mk (blk_below BK_w0.out HW.out)
 replace BK_x0 := Aside0.mk (blk_below BK_x0.out HW.out)
 replace BK_g0 := Aside0.mk (blk_below BK_g0.out HW.out)
 replace BK_h0 := Aside0.mk (blk_below BK_h0.out HW.out)
 clear hb HW
 have czBK_aB_0 : w17.cell? ⟨w.heap.size, 0, none⟩ = some (.int .i64 a0_0) := (blk_cell BK_aB.out 0).trans rfl
 have czBK_aB_1 : w17.cell? ⟨w.heap.size, 1, none⟩ = some (.int .i64 a0_1) := (blk_cell BK_aB.out 1).trans rfl
 have czBK_aB_2 : w17.cell? ⟨w.heap.size, 2, none⟩ = some (.slice A0_2 l0_2.length c0_2) := (blk_cell BK_aB.out 2).trans rfl
 have czBK_w0_0 : w17.cell? ⟨w3.heap.size, 0, none⟩ = some (.int .i64 r0_0) := (blk_cell BK_w0.out 0).trans rfl
 have czBK_w0_1 : w17.cell? ⟨w3.heap.size, 1, none⟩ = some (.slice A2_ r0_1.length c2_) := (blk_cell BK_w0.out 1).trans rfl
 have czBK_x0_0 : w17.cell? ⟨w4.heap.size, 0, none⟩ = some (.int .i64 a0_0) := (blk_cell BK_x0.out 0).trans rfl
 have czBK_x0_1 : w17.cell? ⟨w4.heap.size, 1, none⟩ = some (.int .i64 a0_1) := (blk_cell BK_x0.out 1).trans rfl
 have czBK_x0_2 : w17.cell? ⟨w4.heap.size, 2, none⟩ = some (.slice A3_ nx0_2.length c3_) := (blk_cell BK_x0.out 2).trans rfl
 have czBK_g0_0 : w17.cell? ⟨w5.heap.size, 0, none⟩ = some (.int .i64 r0_0) := (blk_cell BK_g0.out 0).trans rfl
 have czBK_g0_1 : w17.cell? ⟨w5.heap.size, 1, none⟩ = some (.slice A4_ ng0_1.length c4_) := (blk_cell BK_g0.out 1).trans rfl
 have czBK_h0_0 : w17.cell? ⟨w15.heap.size, 0, none⟩ = some (.int .i64 r0_0) := (blk_cell BK_h0.out 0).trans rfl
 have czBK_h0_1 : w17.cell? ⟨w15.heap.size, 1, none⟩ = some (.slice A7_ s0_1.length c7_) := (blk_cell BK_h0.out 1).trans rfl
 go_wp2_with fail
 go_ret
 exact ⟨rfl, below_step HB.out Own.bel⟩
end Go.Proofs.Ytcilbmbgdcepgaa.P
end

section
/- What the printed functions on cells and boards come to: copies, comparison, marks, and the tests whether a board is valid. -/
namespace Go.Proofs.Ytcilbmbgdcepgaa.A
open Go.RowKit YtcilbmbgdcepgaaW.PrintWords YtcilbmbgdcepgaaW.PrintLast YtcilbmbgdcepgaaW.PrintMore P T
set_option linter.unusedVariables false
set_option linter.unusedSimpArgs false
def iotaC : Int → Nat → List S71
 | _, 0 => []
 | m, n + 1 => ⟨m, m + 1⟩ :: iotaC (m + 2) n
theorem iotaC_length (n : Nat) : ∀ m, (iotaC m n).length = n := by
 induction n with
 | zero => intro m; rfl
 | succ n ih => intro m; simp [iotaC, ih]
theorem markCells_loop : ∀ (suf pre : List S71) (m : Int), (pre ++ suf).length ≤ maxLen → 0 ≤ m → m + 2 * (suf.length : Int) ≤ 9223372036854775807 →
  Ev (fun k => laws_markCellS.l0 k (pre ++ suf) m (pre.length : Int)) (m + 2 * (suf.length : Int), pre ++ iotaC m suf.length) := by
 intro suf
 induction suf with
 | nil =>
  intro pre m hm h0 h1
  refine Ev.step (fun k => laws_markCellS.l0.eq_2 ..) ?_
  exact ev_neg (not_lt_end _) (ev_const (by simp [iotaC]))
 | cons y suf ih =>
  intro pre m hm h0 h1
  simp only [List.length_cons, Int.natCast_add, Int.natCast_one] at h1
  refine Ev.step (fun k => laws_markCellS.l0.eq_2 ..) ?_
  refine ev_pos (lt_mid _ _ _) (ev_pos (by omega) ?_)
  simp only [Option.bind_some]
  rw [next_mid _ _ _ hm, set_mid, List.append_assoc, List.singleton_append]
  simp only [rdc_mid]
  rw [set_mid, wrap_id (x := m + 1) (by omega) (by omega), wrap_id (x := m + 1 + 1) (by omega) (by omega)]
  have := ih (pre ++ [⟨m, m + 1⟩]) (m + 2) (by simpa using hm) (by omega) (by omega)
  rw [show ((pre ++ [(⟨m, m + 1⟩ : S71)]).length : Int) = ((pre ++ [y]).length : Int) by simp] at this
  rw [show (m + 2 * ((y :: suf).length : Int), pre ++ iotaC m (y :: suf).length) = (m + 2 + 2 * (suf.length : Int), pre ++ [(⟨m, m + 1⟩ : S71)] ++ iotaC (m + 2) suf.length) by simp [iotaC]; omega, show m + 1 + 1 = m + 2 by omega]
  exact this
theorem markBo (a b : Int) (l : List S71) (m : Int) (h : l.length ≤ maxLen) (h0 : 0 ≤ m) (h1 : m + 2 * (l.length : Int) ≤ 9223372036854775807) : Ev (fun k => laws_markBoard.f k a b l m) (m + 2 * (l.length : Int), iotaC m l.length) := by
 unfold laws_markBoard.f laws_markCellS.f
 exact ev_bind (markCells_loop l [] m h h0 h1) (ev_const rfl)
end Go.Proofs.Ytcilbmbgdcepgaa.A
end

section
/- What the printed helpers on numbers and on lists of numbers come to. -/
namespace Go.Proofs.Ytcilbmbgdcepgaa.A
open Go.RowKit YtcilbmbgdcepgaaW.PrintWords YtcilbmbgdcepgaaW.PrintLast YtcilbmbgdcepgaaW.PrintMore P T
set_option linter.unusedVariables false
set_option linter.unusedSimpArgs false
theorem eqInts_loop (l : List Int) : ∀ (suf pre : List Int), l = pre ++ suf → l.length ≤ maxLen → Ev (fun k => laws_eqIntS.l0 k l l (pre.length : Int)) true := by
 intro suf
 induction suf with
 | nil =>
  intro pre hl hm
  subst hl
  refine Ev.step (fun k => laws_eqIntS.l0.eq_2 ..) ?_
  exact ev_neg (not_lt_end _) (ev_const rfl)
 | cons y suf ih =>
  intro pre hl hm
  subst hl
  refine Ev.step (fun k => laws_eqIntS.l0.eq_2 ..) ?_
  refine ev_pos (lt_mid _ _ _) (ev_pos (by omega) (ev_pos (lt_mid _ _ _) (ev_pos rfl ?_)))
  rw [next_mid _ _ _ hm]
  exact ih (pre ++ [y]) (assoc_mid _ _ _) hm
theorem eqInts (l : List Int) (h : l.length ≤ maxLen) : Ev (fun k => laws_eqIntS.f k l l) true := by
 unfold laws_eqIntS.f
 exact ev_pos rfl (eqInts_loop l l [] rfl h)
theorem markInts_loop : ∀ (suf pre : List Int) (m : Int), (pre ++ suf).length ≤ maxLen → 0 ≤ m → m + (suf.length : Int) ≤ 9223372036854775807 →
  Ev (fun k => laws_markIntS.l0 k (pre ++ suf) m (pre.length : Int)) (m + (suf.length : Int), pre ++ iota m suf.length) := by
 intro suf
 induction suf with
 | nil =>
  intro pre m hm h0 h1
  refine Ev.step (fun k => laws_markIntS.l0.eq_2 ..) ?_
  exact ev_neg (not_lt_end _) (ev_const (by simp [iota]))
 | cons y suf ih =>
  intro pre m hm h0 h1
  simp only [List.length_cons, Int.natCast_add, Int.natCast_one] at h1
  refine Ev.step (fun k => laws_markIntS.l0.eq_2 ..) ?_
  refine ev_pos (lt_mid _ _ _) (ev_pos (by omega) ?_)
  rw [next_mid _ _ _ hm, set_mid, wrap_id (x := m + 1) (by omega) (by omega)]
  have := ih (pre ++ [m]) (m + 1) (by simpa using hm) (by omega) (by omega)
  rw [show ((pre ++ [m]).length : Int) = ((pre ++ [y]).length : Int) by simp] at this
  rw [show (m + ((y :: suf).length : Int), pre ++ iota m (y :: suf).length) = (m + 1 + (suf.length : Int), pre ++ [m] ++ iota (m + 1) suf.length) by simp [iota]; omega]
  exact this
theorem markInts (l : List Int) (m : Int) (h : l.length ≤ maxLen) (h0 : 0 ≤ m) (h1 : m + (l.length : Int) ≤ 9223372036854775807) : Ev (fun k => laws_markIntS.f k l m) (m + (l.length : Int), iota m l.length) := by
 unfold laws_markIntS.f
 exact markInts_loop l [] m h h0 h1
theorem heldInts_loop : ∀ (n : Nat) (pre : List Int) (m : Int), (pre ++ iota m n).length ≤ maxLen → 0 ≤ m → m + (n : Int) ≤ 9223372036854775807 →
  Ev (fun k => laws_heldIntS.l0 k (pre ++ iota m n) m (pre.length : Int)) (m + (n : Int)) := by
 intro n
 induction n with
 | zero =>
  intro pre m hm h0 h1
  refine Ev.step (fun k => laws_heldIntS.l0.eq_2 ..) ?_
  exact ev_neg (not_lt_end _) (ev_const (by simp))
 | succ n ih =>
  intro pre m hm h0 h1
  refine Ev.step (fun k => laws_heldIntS.l0.eq_2 ..) ?_
  simp only [iota] at hm ⊢
  refine ev_pos (lt_mid _ _ _) (ev_pos (by omega) (ev_pos (rd_mid _ _ _) ?_))
  rw [next_mid _ _ _ hm, wrap_id (x := m + 1) (by omega) (by omega), assoc_mid]
  have := ih (pre ++ [m]) (m + 1) (by simpa using hm) (by omega) (by omega)
  rw [show m + ((n + 1 : Nat) : Int) = m + 1 + (n : Int) by omega]
  exact this
theorem heldInts (n : Nat) (m : Int) (h : n ≤ maxLen) (h0 : 0 ≤ m) (h1 : m + (n : Int) ≤ 9223372036854775807) : Ev (fun k => laws_heldIntS.f k (iota m n) m) (m + (n : Int)) := by
 unfold laws_heldIntS.f
 exact heldInts_loop n [] m (by simpa [iota_length] using h) h0 h1
end Go.Proofs.Ytcilbmbgdcepgaa.A
end

section
/- The value of an entry of a board, in the reference. -/
namespace Go.Proofs.Ytcilbmbgdcepgaa.A
open Go.RowKit YtcilbmbgdcepgaaW.PrintWords YtcilbmbgdcepgaaW.PrintLast YtcilbmbgdcepgaaW.PrintMore P T
set_option linter.unusedVariables false
set_option linter.unusedSimpArgs false

theorem specRE (r c : Int) (l : List S71) (split idx : Int) (hm : l.length ≤ maxLen) : Ev (fun k => spec_ReadEntry.f k r c l split idx) (resRE r c l split idx) := ⟨0, fun k _ => by show spec_ReadEntry.f k r c l split idx = _; unfold spec_ReadEntry.f; rw [if_pos hm]⟩
end Go.Proofs.Ytcilbmbgdcepgaa.A
end

section
/- The table of a board, in the reference. -/
namespace Go.Proofs.Ytcilbmbgdcepgaa.A
open Go.RowKit YtcilbmbgdcepgaaW.PrintWords YtcilbmbgdcepgaaW.PrintLast YtcilbmbgdcepgaaW.PrintMore P T
set_option linter.unusedVariables false
set_option linter.unusedSimpArgs false

theorem specTB_loop (R cn : Nat) (l : List S71) (split n : Int) (hb : BoOk R cn l) (hs : 0 ≤ split ∧ split ≤ (cn : Int)) (hm : l.length ≤ maxLen) : ∀ (d i : Nat) (acc : List Int), i + d = cn → acc.length = i →
  Ev (fun k => spec_TableOfBoard.l0 k split (i : Int) (R : Int) (cn : Int) l n acc) (if ∀ v ∈ (List.range' i d).map (fun (j : Nat) => valE (R : Int) (cn : Int) l split (j : Int)), 0 ≤ v then (n, acc ++ (List.range' i d).map (fun (j : Nat) => valE (R : Int) (cn : Int) l split (j : Int)), true) else (0, [], false)) := by
 have hc := hb.2.1.2
 intro d
 induction d with
 | zero => exact fun i acc hi ha => Ev.step (fun k => spec_TableOfBoard.l0.eq_2 ..) (ev_neg (by omega) (ev_const (by simp)))
 | succ d ih =>
  intro i acc hi ha
  have hre := specRE (R : Int) (cn : Int) l split (i : Int) hm
  unfold resRE at hre
  rw [if_pos (show EnOk (R : Int) (cn : Int) l split (i : Int) from ⟨⟨hb, by omega, by omega⟩, hs⟩)] at hre
  rw [List.range'_succ, List.map_cons]
  refine Ev.step (fun k => spec_TableOfBoard.l0.eq_2 ..) (ev_pos (by omega) (ev_bind hre ?_))
  by_cases hv : valE (R : Int) (cn : Int) l split (i : Int) < 0
  ·rw [if_pos hv, if_neg (fun h => absurd (h _ (List.mem_cons_self ..)) (by omega))]
   exact ev_neg (by simp) (ev_const rfl)
  ·rw [if_neg hv]
   refine ev_pos rfl (ev_pos (by omega) ?_)
   rw [wrap_id (x := (i : Int) + 1) (by omega) (by omega)]
   have h := ih (i + 1) (acc ++ [valE (R : Int) (cn : Int) l split (i : Int)]) (by omega) (by simp [ha])
   rw [List.append_assoc, List.singleton_append] at h
   have e : (∀ v ∈ valE (R : Int) (cn : Int) l split (i : Int) :: (List.range' (i + 1) d).map (fun (j : Nat) => valE (R : Int) (cn : Int) l split (j : Int)), 0 ≤ v) ↔ ∀ v ∈ (List.range' (i + 1) d).map (fun (j : Nat) => valE (R : Int) (cn : Int) l split (j : Int)), 0 ≤ v :=
    ⟨fun h_ v hv_ => h_ v (List.mem_cons_of_mem _ hv_), fun h_ v hv_ => (List.mem_cons.1 hv_).elim (fun e_ => by rw [e_]; omega) (h_ v)⟩
   simp only [e]
   exact h
theorem specTB (r c : Int) (l : List S71) (split n : Int) (hm : l.length ≤ maxLen) : Ev (fun k => spec_TableOfBoard.f k r c l split n) (resTB r c l split n) := by
 have no : ¬ TbOk r c l split n → Ev (fun k => spec_TableOfBoard.j0 k split n true r c l) (resTB r c l split n) := fun h => by
  unfold resTB
  rw [if_neg h]
  exact Ev.step (fun k => spec_TableOfBoard.j0.eq_2 ..) (ev_pos rfl (ev_const rfl))
 unfold spec_TableOfBoard.f
 refine ev_bind (boGood r c l hm) ?_
 by_cases h : BoOk r c l
 case neg =>
  rw [decide_eq_false h]
  exact ev_neg (by simp) (no (fun h2 => h h2.1))
 rw [decide_eq_true h]
 refine ev_pos rfl (ev_bindc (in_f _ _ _) ?_)
 by_cases h2 : 0 ≤ n ∧ n ≤ 3
 case neg =>
  rw [decide_eq_false h2]
  exact ev_neg (by simp) (no (fun h3 => h2 h3.2.1))
 rw [decide_eq_true h2]
 have e1 : IntKind.u64.wrap n = n := by
  obtain rfl | rfl | rfl | rfl : n = 0 ∨ n = 1 ∨ n = 2 ∨ n = 3 := by omega
  all_goals rfl
 have e2 : shl .i64 1 n = 2 ^ n.toNat := by
  obtain rfl | rfl | rfl | rfl : n = 0 ∨ n = 1 ∨ n = 2 ∨ n = 3 := by omega
  all_goals rfl
 rw [e1, e2]
 refine ev_pos rfl (ev_pos h2.1 ?_)
 by_cases h3 : c = 2 ^ n.toNat
 case neg =>
  rw [show (c != 2 ^ n.toNat) = true by simpa using h3]
  exact no (fun h4 => h3 h4.2.2.1)
 rw [show (c != 2 ^ n.toNat) = false by simpa using h3]
 refine Ev.step (fun k => spec_TableOfBoard.j0.eq_2 ..) (ev_neg (by simp) ?_)
 have hre := specRE r c l split 0 hm
 obtain ⟨R, cn, rfl, rfl⟩ := nat_of h
 have h0 := h.2.1.1
 by_cases h4 : 0 ≤ split ∧ split ≤ (cn : Int)
 ·unfold resTB valsE
  rw [if_pos ⟨h, h2, h3, h4⟩, Int.toNat_natCast]
  have h5 := specTB_loop R cn l split n h h4 hm cn 0 [] (by omega) rfl
  rw [List.nil_append] at h5
  exact h5
 ·unfold resTB
  rw [if_neg (fun h5 : TbOk (R : Int) (cn : Int) l split n => h4 h5.2.2.2)]
  unfold resRE at hre
  rw [if_neg (fun h5 : EnOk (R : Int) (cn : Int) l split 0 => h4 h5.2)] at hre
  exact Ev.step (fun k => spec_TableOfBoard.l0.eq_2 ..) (ev_pos (by omega) (ev_bind hre (ev_neg (by simp) (ev_const rfl))))
end Go.Proofs.Ytcilbmbgdcepgaa.A
end

section
/- FnExactTableOfBoard: the program's TableOfBoard returns what the reference's returns, for all boards that are not greater than 2^20 cells (as the law's own guard says) and all numbers. -/
namespace Go.Proofs.Ytcilbmbgdcepgaa.A
open Go.RowKit YtcilbmbgdcepgaaW.PrintWords YtcilbmbgdcepgaaW.PrintLast YtcilbmbgdcepgaaW.PrintMore P T
set_option linter.unusedVariables false
set_option linter.unusedSimpArgs false

theorem implTB (r c : Int) (l : List S71) (split n : Int) (hm : l.length ≤ maxLen) : Ev (fun k => impl_TableOfBoard.f k r c l split n) (resTB r c l split n) := ⟨0, fun k _ => by show impl_TableOfBoard.f k r c l split n = _; unfold impl_TableOfBoard.f; rw [if_pos hm]⟩
theorem resTB_len (r c : Int) (l : List S71) (split n : Int) : (resTB r c l split n).2.1.length ≤ 9 := by
 unfold resTB
 by_cases h : TbOk r c l split n
 ·rw [if_pos h]
  have h1 := valsE_len r c l split
  have h2 := h.1.2.1.2
  split
  ·simp only [h1]; omega
  ·simp
 ·rw [if_neg h]; simp
theorem eqTab (a : Int) (l : List Int) (h : l.length ≤ maxLen) : Ev (fun k => laws_eqTable.f k a l a l) true := by
 unfold laws_eqTable.f
 exact ev_pos rfl (ev_bind (eqInts l h) (ev_pos rfl (ev_const rfl)))
theorem markTab (a : Int) (l : List Int) (h : l.length ≤ 1048576) : Ev (fun k => laws_markTable.f k a l 1) (1 + (l.length : Int), iota 1 l.length) := by
 unfold laws_markTable.f
 exact ev_bind (markInts l 1 (by simp only [maxLen]; omega) (by omega) (by omega)) (ev_const rfl)
theorem heldTab (a : Int) (n : Nat) (h : n ≤ 1048576) : Ev (fun k => laws_heldTable.f k a (iota 1 n) 1) (1 + (n : Int)) := by
 unfold laws_heldTable.f
 exact ev_bind (heldInts n 1 (by simp only [maxLen]; omega) (by omega) (by omega)) (ev_neg (by omega) (ev_const rfl))
theorem lawFnExactTableOfBoard (a0_0 a0_1 : Int) (A0_2 : Option Addr) (c0_2 : Nat) (l0_2 : List S96) (a1 a2 : Int) (w : World) (h1 : Kd.C k96 w A0_2 l0_2.length l0_2) (hc1 : l0_2.length ≤ c0_2) (hm : l0_2.length ≤ maxLen) :
  Calls Try.prog 10 #[.agg #[.int .i64 a0_0, .int .i64 a0_1, .slice A0_2 l0_2.length c0_2], .int .i64 a1, .int .i64 a2] w fun e w' => e = .returned (.bool true) ∧ Below w.heap.size w w' := by
 have e0 := szBo a0_0 a0_1 l0_2 1048576 (by omega) hm
 by_cases hs : (1048576 : Int) - (l0_2.length : Int) < 0
 ·rw [if_pos hs] at e0
  exact FnExactTableOfBoard_small0 0 _ _ _ _ _ _ _ _ w h1 hc1 e0 (by omega)
 rw [if_neg hs] at e0
 have hlen : l0_2.length ≤ 1048576 := by omega
 have hml : (l0_2.map cpC).length ≤ maxLen := by simp [maxLen]; omega
 have hmn : (l0_2.map cpC).length ≤ 1048576 := by simp; omega
 obtain ⟨K1, e1⟩ := toBo a0_0 a0_1 l0_2 hlen
 obtain ⟨K3, e3⟩ := specTB a0_0 a0_1 (l0_2.map cpC) a1 a2 hml
 obtain ⟨K4, e4⟩ := implTB a0_0 a0_1 (l0_2.map cpC) a1 a2 hml
 obtain ⟨K5, e5⟩ := eqBo a0_0 a0_1 (l0_2.map cpC) hml
 have q1 := resTB_len a0_0 a0_1 (l0_2.map cpC) a1 a2
 obtain ⟨⟨t0, t1, t2⟩, ht⟩ : ∃ t, t = resTB a0_0 a0_1 (l0_2.map cpC) a1 a2 := ⟨_, rfl⟩
 rw [← ht] at e3 e4 q1
 simp only at q1
 obtain ⟨K7, e7⟩ := eqTab t0 t1 (by simp only [maxLen]; omega)
 obtain ⟨K8, e8⟩ := markBo a0_0 a0_1 (l0_2.map cpC) 1 hml (by omega) (by omega)
 obtain ⟨K9, e9⟩ := markTab t0 t1 (by omega)
 obtain ⟨K10, e10⟩ := heldTab t0 t1.length (by omega)
 exact FnExactTableOfBoard_walk (K1 + K3 + K4 + K5 + K7 + K8 + K9 + K10) _ _ _ _ _ _ _ _ (l0_2.map cpC) t0 t1 t2 t1 _ _ _ _ w h1 hc1 e0 (by omega) (e1 _ (by omega)) (e3 _ (by omega)) (e4 _ (by omega)) (e7 _ (by omega)) (e5 _ (by omega)) (e8 _ (by omega)) (by omega) (e9 _ (by omega)) (by omega) (e10 _ (by omega))
end Go.Proofs.Ytcilbmbgdcepgaa.A
end

section
/- Opens an argument that a row reads as data into the cells and lists that a contract speaks of: whole numbers, slices, structs of two and three fields. -/
namespace Go.Proofs.Ytcilbmbgdcepgaa.Op
open Go.ChangeShapes Go.WideShapes Go.Deep Go.RowKit YtcilbmbgdcepgaaW.PrintWords
set_option linter.unusedVariables false

/-- What reads as data of type t is of kind d, and meets wf. -/
def Opens (P : Program) (t : TypeId) {α : Type} (d : Kd α) (wf : α → Prop) : Prop :=
 ∀ {H : Type} {enc : TypeId × Value → H} {w : World} {base : Nat} {spare : Nat → Bool} {held : Bool} {fuel : Nat} {cs : List Value} {x : DataW H × List MemPlace},
  DataW.trod enc P w base spare held fuel t cs = some x → ∃ a, d.K w a cs ∧ wf a

def WNum (k : IntKind) (n : Int) : Prop := (Lit.int k n).wf = true
abbrev WInt : Int → Prop := WNum .i64
def WList {α : Type} (wf : α → Prop) (l : List α) : Prop := l.length ≤ maxLen ∧ ∀ a ∈ l, wf a

theorem opens_int {P : Program} {t : TypeId} {k : IntKind} (h : P.underlying t = some (.int k)) : Opens P t (Kd.int k) (WNum k) := by
 intro H enc w base spare held fuel cs x ht
 obtain ⟨n, rfl, _, hw⟩ := DataW.trod_int h ht
 exact ⟨n, rfl, hw⟩

theorem opens_slice {P : Program} {t e : TypeId} {α : Type} {d : Kd α} {wf : α → Prop} (q : Nat) (h : P.underlying t = some (.slice e)) (hc : P.cellsOf e = d.sz) (o : Opens P e d wf) :
  Opens P t (Kd.slice q d) (WList wf) := by
 intro H enc w base spare held fuel cs x ht
 rcases open_slice h ht with ⟨rfl, _⟩ | ⟨a, len, cap, m, n, D, Pl, rfl, hb, hl, hm, hmm, hx, hi⟩
 ·exact ⟨[], ⟨none, 0, rfl, Nat.le_refl _, rfl, by simp, fun hn => by simp at hn⟩, by simp [WList]⟩
 ·have hlm : len ≤ m := by rw [hmm]; split <;> omega
  have each : ∀ i, i < len → ∃ y cs', w.cells? base (a.add (i * d.sz)) d.sz = some cs' ∧ d.K w y cs' ∧ wf y := by
   intro i hil
   obtain ⟨cs', h1, h2⟩ := hi i (by omega)
   obtain ⟨y, hk, hw⟩ := o h2
   rw [hc] at h1
   exact ⟨y, cs', h1, hk, hw⟩
  have build : ∀ k, k ≤ len → ∃ ys : List α, ys.length = k ∧ (∀ y ∈ ys, wf y) ∧ ∀ j y, ys[j]? = some y → ∃ c, c.length = d.sz ∧ d.K w y c ∧ ∀ i u, c[i]? = some u → w.cell? (a.add (j * d.sz + i)) = some u := by
   intro k
   induction k with
   | zero => exact fun _ => ⟨[], rfl, by simp, by simp⟩
   | succ k ih =>
    intro hk
    obtain ⟨ys, hlen, hwf, hys⟩ := ih (by omega)
    obtain ⟨y, cs', h1, h2, h3⟩ := each k (by omega)
    obtain ⟨_, hcl, hat⟩ := World.cells?_some h1
    refine ⟨ys ++ [y], by simp [hlen], ?_, ?_⟩
    ·intro z hz
     rcases List.mem_append.1 hz with hz | hz
     ·exact hwf z hz
     ·rw [List.mem_singleton.1 hz]; exact h3
    ·intro j z hj
     by_cases hjk : j < k
     ·rw [List.getElem?_append_left (by omega)] at hj
      exact hys j z hj
     ·have hjl : j < (ys ++ [y]).length := (List.getElem?_eq_some_iff.1 hj).1
      simp only [List.length_append, List.length_singleton, hlen] at hjl
      obtain rfl : j = k := by omega
      rw [List.getElem?_append_right (by omega), hlen, Nat.sub_self] at hj
      obtain rfl : y = z := by simpa using hj
      refine ⟨cs', hcl, h2, fun i u hu => ?_⟩
      have hil : i < d.sz := by
       have := (List.getElem?_eq_some_iff.1 hu).1
       omega
      have := hat i hil
      rw [Go.Deep.add_add] at this
      rw [this, hu]
  obtain ⟨ys, hlen, hwf, hys⟩ := build len (Nat.le_refl _)
  have hmx : len ≤ maxLen := by omega
  exact ⟨ys, ⟨some a, cap, by rw [hlen], by rw [hlen]; exact hl, rfl, by rw [hlen]; exact hmx, fun _ => ⟨a, rfl, hys⟩⟩, by rw [hlen]; exact hmx, hwf⟩

theorem opens_iso {P : Program} {t : TypeId} {α β : Type} {d : Kd α} {wf : α → Prop} (f : β → α) (g : α → β) (hg : ∀ a, f (g a) = a) (o : Opens P t d wf) : Opens P t (Kd.iso d f) (fun b => wf (f b)) := by
 intro H enc w base spare held fuel cs x ht
 obtain ⟨a, h1, h2⟩ := o ht
 exact ⟨g a, by show d.K w (f (g a)) cs; rw [hg]; exact h1, by show wf (f (g a)); rw [hg]; exact h2⟩

theorem opens_two {P : Program} {t : TypeId} {f0 f1 : Field} {α β : Type} {a : Kd α} {b : Kd β} {wa : α → Prop} {wb : β → Prop}
  (h : P.underlying t = some (.struct #[f0, f1])) (hc : P.cellsOf t = a.sz + b.sz) (o0 : f0.offset = 0) (o1 : f1.offset = a.sz) (c0 : P.cellsOf f0.type = a.sz) (c1 : P.cellsOf f1.type = b.sz)
  (oa : Opens P f0.type a wa) (ob : Opens P f1.type b wb) : Opens P t (Kd.pair a b) (fun x => wa x.1 ∧ wb x.2) := by
 intro H enc w base spare held fuel cs x ht
 obtain ⟨xs, n, _, _, hlen, hxl, hf⟩ := DataW.trod_struct h ht
 have hx2 : xs.length = 2 := hxl
 have h0 := hf 0 f0 rfl
 have h1 := hf 1 f1 rfl
 rw [List.getElem?_eq_getElem (by omega)] at h0 h1
 obtain ⟨y0, k0, w0⟩ := oa h0
 obtain ⟨y1, k1, w1⟩ := ob h1
 refine ⟨(y0, y1), ⟨_, _, ?_, k0, k1⟩, w0, w1⟩
 rw [hc] at hlen
 rw [o0, o1, c0, c1, List.drop_zero]
 rw [List.take_of_length_le (l := cs.drop a.sz) (by simp; omega), List.take_append_drop]

theorem opens_three {P : Program} {t : TypeId} {f0 f1 f2 : Field} {α β γ : Type} {a : Kd α} {b : Kd β} {c : Kd γ} {wa : α → Prop} {wb : β → Prop} {wc : γ → Prop}
  (h : P.underlying t = some (.struct #[f0, f1, f2])) (hc : P.cellsOf t = a.sz + (b.sz + c.sz)) (o0 : f0.offset = 0) (o1 : f1.offset = a.sz) (o2 : f2.offset = a.sz + b.sz) (c0 : P.cellsOf f0.type = a.sz) (c1 : P.cellsOf f1.type = b.sz) (c2 : P.cellsOf f2.type = c.sz)
  (oa : Opens P f0.type a wa) (ob : Opens P f1.type b wb) (oc : Opens P f2.type c wc) : Opens P t (Kd.pair a (Kd.pair b c)) (fun x => wa x.1 ∧ wb x.2.1 ∧ wc x.2.2) := by
 intro H enc w base spare held fuel cs x ht
 obtain ⟨xs, n, _, _, hlen, hxl, hf⟩ := DataW.trod_struct h ht
 have hx2 : xs.length = 3 := hxl
 have h0 := hf 0 f0 rfl
 have h1 := hf 1 f1 rfl
 have h2 := hf 2 f2 rfl
 rw [List.getElem?_eq_getElem (by omega)] at h0 h1 h2
 obtain ⟨y0, k0, w0⟩ := oa h0
 obtain ⟨y1, k1, w1⟩ := ob h1
 obtain ⟨y2, k2, w2⟩ := oc h2
 rw [hc] at hlen
 refine ⟨(y0, y1, y2), ⟨_, cs.drop a.sz, ?_, k0, ⟨_, _, ?_, k1, k2⟩⟩, w0, w1, w2⟩
 ·rw [o0, c0, List.drop_zero, List.take_append_drop]
 ·rw [o1, o2, c1, c2]
  rw [List.take_of_length_le (l := cs.drop (a.sz + b.sz)) (by simp; omega), ← List.drop_drop, List.take_append_drop]

/-- A slice among the arguments. -/
theorem open_arg_slice {P : Program} {t : TypeId} {α : Type} {d : Kd α} {wf : α → Prop} {q : Nat} (o : Opens P t (Kd.slice q d) (WList wf)) {H : Type} {enc : TypeId × Value → H} {w : World} {base : Nat} {spare : Nat → Bool} {held : Bool}
  {A : Option Addr} {len cap : Nat} {D : DataW H} {ps : List MemPlace} (h : DataW.Trod enc P w base spare held t (.slice A len cap) D ps) :
  ∃ l : List α, len = l.length ∧ l.length ≤ cap ∧ d.C w A l.length l ∧ WList wf l := by
 obtain ⟨fuel, hf⟩ := h
 obtain ⟨l, ⟨A', c, he, hl, hC⟩, hw⟩ := o hf
 simp only [Value.cells, List.cons.injEq, Value.slice.injEq, and_true] at he
 obtain ⟨rfl, rfl, rfl⟩ := he
 exact ⟨l, rfl, hl, hC, hw⟩
end Go.Proofs.Ytcilbmbgdcepgaa.Op
end

section
/- FnExactTableOfBoard: the program and the reference agree for all arguments: the row over the pure statement. -/
namespace Go.Proofs.Ytcilbmbgdcepgaa.fnExactTableOfBoard
open Go.ChangeShapes Go.WideShapes Go.ChangeAt Go.RowKit
open Go.ChangeMaps (open_string shut_string)
open Go.Proofs.Ytcilbmbgdcepgaa.Op
set_option linter.unusedVariables false
theorem own : ownKnob Try.prog.godebug = none := by kernel_rfl
theorem laidOut : laidOutB Try.prog = true := by kernel_rfl
theorem ty3 : Opens Try.prog 3 (Go.Proofs.YtcilbmbgdcepgaaW.PrintWords.Kd.int .i64) (WNum .i64) := opens_int Try.underlying3
theorem ty96 : Opens Try.prog 96 P.k96 (fun x : P.S96 => (WNum .i64) x.f0 ∧ (WNum .i64) x.f1) := opens_iso (fun x : P.S96 => (x.f0, x.f1)) (fun a => ⟨a.1, a.2⟩) (fun _ => rfl) (opens_two Try.underlying96 (by kernel_rfl) (by kernel_rfl) (by kernel_rfl) (by kernel_rfl) (by kernel_rfl) ty3 ty3)
theorem ty30 : Opens Try.prog 30 (Go.Proofs.YtcilbmbgdcepgaaW.PrintWords.Kd.slice 96 P.k96) (WList (fun x : P.S96 => (WNum .i64) x.f0 ∧ (WNum .i64) x.f1)) := opens_slice 96 Try.underlying30 (by kernel_rfl) ty96
theorem tw32 : Opens Try.prog 32 (Go.Proofs.YtcilbmbgdcepgaaW.PrintWords.Kd.pair (Go.Proofs.YtcilbmbgdcepgaaW.PrintWords.Kd.int .i64) (Go.Proofs.YtcilbmbgdcepgaaW.PrintWords.Kd.pair (Go.Proofs.YtcilbmbgdcepgaaW.PrintWords.Kd.int .i64) (Go.Proofs.YtcilbmbgdcepgaaW.PrintWords.Kd.slice 96 P.k96))) (fun x : Int × Int × (List P.S96) => (WNum .i64) x.1 ∧ (WNum .i64) x.2.1 ∧ (WList (fun x : P.S96 => (WNum .i64) x.f0 ∧ (WNum .i64) x.f1)) x.2.2) := opens_three Try.underlying32 (by kernel_rfl) (by kernel_rfl) (by kernel_rfl) (by kernel_rfl) (by kernel_rfl) (by kernel_rfl) (by kernel_rfl) ty3 ty3 ty30
set_option maxRecDepth 100000 in
theorem lifted (os : Os) (started : os.Started) (H : Type) (enc : TypeId × Value → H) :
    ReturnsInHanded {} Try.checked os 10 .any (Rows.fnExactTableOfBoardSpec.pre6 enc Try.prog Try.f10 Rows.fnExactTableOfBoardRow.domain false) (Rows.fnExactTableOfBoardSpec.post enc Try.prog Try.f10 false true false false) := by
  refine returnsInHanded_of_change_sized (C := Try.checked) own started (by kernel_rfl) Try.func10
    (ChangeSpec.witness6 (enc := enc) (C := Try.checked) false ⟨#[], #[.agg #[.int .i64 0, .int .i64 0, .slice none 0 0], .int .i64 0, .int .i64 0], []⟩ 8 (by kernel_rfl) (by kernel_rfl) (by kernel_rfl) (by kernel_rfl)) ?_
  intro W base args ds gs before hval0 hW hcnd hsz0 _
  have hsz : (DataW.weightsEach Try.prog (Try.f10.params.toList ++ Rows.fnExactTableOfBoardSpec.plain.varTypes Try.prog) (ds ++ gs)).all (· ≤ reachBytes) = true := hsz0
  have hval : ∀ (j : Nat) t v, Try.f10.params[j]? = some t → args[j]? = some v → Value.okWide Try.prog W .any base t v := hval0
  have hW' := hW
  obtain ⟨p, q, hA0, hV, rfl, hfz, hnd⟩ := hW
  have hA : DataW.TrodAll enc Try.prog W 0 (fun _ => true) true Try.f10.params.toList args.toList ds p := hA0
  rw [Try.params10] at hA hval hsz
  obtain ⟨v0, vs0, d0, ds0, p0, q0, hargs, rfl, rfl, h0, r0⟩ := trodAll_cons hA
  obtain ⟨v1, vs1, d1, ds1, p1, q1, rfl, rfl, rfl, h1, r1⟩ := trodAll_cons r0
  obtain ⟨v2, vs2, d2, ds2, p2, q2, rfl, rfl, rfl, h2, r2⟩ := trodAll_cons r1
  obtain ⟨rfl, rfl, rfl⟩ := trodAll_nil r2
  obtain rfl : args = #[v0, v1, v2] := by cases args; simp_all
  obtain ⟨rfl, rfl⟩ := trodVars_none hV
  have k0 := h0
  have lt0 : ∀ x ∈ p0, x.block < W.heap.size := by obtain ⟨m, hm⟩ := k0; exact DataW.trod_lt m _ _ _ hm
  obtain ⟨cs0, rfl, _⟩ := okWide_struct Try.underlying32 (hval 0 32 v0 rfl rfl)
  obtain ⟨csl0⟩ := cs0
  obtain ⟨fu0, hf0⟩ := h0
  obtain ⟨⟨a0_0, a0_1, l0_2⟩, ⟨x0_0, xr0, ex0, e0_0, ⟨x0_1, x0_2, er0, e0_1, ⟨A0_2, c0_2, e0_2, hc0_2, hC0_2⟩⟩⟩, ⟨w0_0, w0_1, w0_2⟩⟩ := tw32 hf0
  replace e0_0 : x0_0 = [Value.int .i64 a0_0] := e0_0
  replace e0_1 : x0_1 = [Value.int .i64 a0_1] := e0_1
  replace e0_2 : x0_2 = [Value.slice A0_2 l0_2.length c0_2] := e0_2
  replace hc0_2 : l0_2.length ≤ c0_2 := hc0_2
  replace hC0_2 : Go.Proofs.YtcilbmbgdcepgaaW.PrintWords.Kd.C P.k96 W A0_2 l0_2.length l0_2 := hC0_2
  replace w0_0 : (WNum .i64) a0_0 := w0_0
  replace w0_1 : (WNum .i64) a0_1 := w0_1
  replace w0_2 : (WList (fun x : P.S96 => (WNum .i64) x.f0 ∧ (WNum .i64) x.f1)) l0_2 := w0_2
  subst e0_1 e0_2 er0 e0_0 ex0
  obtain ⟨a1, rfl, rfl, rfl, w1⟩ := open_int Try.underlying3 (hval 1 3 v1 rfl rfl) h1
  obtain ⟨a2, rfl, rfl, rfl, w2⟩ := open_int Try.underlying3 (hval 2 3 v2 rfl rfl) h2
  clear hA0 hval0 hsz0 hsz
  refine (A.lawFnExactTableOfBoard a0_0 a0_1 A0_2 c0_2 l0_2 a1 a2 W hC0_2 hc0_2 w0_2.1).mono fun e W' ⟨he, bel⟩ => ?_
  subst he
  exact ⟨_, rfl, _, _, _, [], _, [], hW', trodAll_mk1 (shut_bool Try.underlying4 _), (trodAll_cons_mk (Below.trod laidOut (by kernel_rfl) (of_decide_eq_true (by kernel_rfl)) k0 bel lt0) (trodAll_cons_mk (shut_int Try.underlying3 w1) (trodAll_cons_mk (shut_int Try.underlying3 w2) trodAll_mk0))), rfl, bel.frame _, fun h => by cases h⟩
theorem over : Rows.fnExactTableOfBoardRow.holds Try.pinned (OpenSpec.ofChange Rows.fnExactTableOfBoardSpec) :=
  OpenClaim.holds_of_wide 10 Try.f10 rfl rfl rfl rfl rfl rfl rfl ⟨rfl, rfl, rfl, rfl, rfl⟩ rfl rfl rfl rfl rfl (by kernel_rfl) Try.func10 (by kernel_rfl)
    (of_decide_eq_true (by kernel_rfl)) (by unfold Func.isWrapper; first | (rw [if_pos (by decide +kernel)]; kernel_rfl) | (rw [if_neg (by decide +kernel)]; exact ⟨rfl, rfl⟩))
    (fun os started H enc _ => lifted os started H enc)
end Go.Proofs.Ytcilbmbgdcepgaa.fnExactTableOfBoard
namespace Go.Proofs.Ytcilbmbgdcepgaa
/-- The row. -/
theorem fnExactTableOfBoard_holds : Rows.FnExactTableOfBoardSaid := fnExactTableOfBoard.over
end Go.Proofs.Ytcilbmbgdcepgaa
end
