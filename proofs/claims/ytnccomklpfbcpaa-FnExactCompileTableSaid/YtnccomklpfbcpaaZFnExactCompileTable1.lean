/- FnExactCompileTable: texts of this claim in one: WalkFnExactCompileTable, ASet, ATab, LawCompileTable, Op, RowFnExactCompileTable. -/
import Derived.Test.YtnccomklpfbcpaaZFnExactCompileTable0
import Derived.Test.YtnccomklpfbcpaaYFnExactCompileTablePx49
import Derived.Test.YtnccomklpfbcpaaYFnExactCompileTablePx50
import Derived.Test.YtnccomklpfbcpaaYFnExactCompileTablePx53
import Derived.Test.YtnccomklpfbcpaaYFnExactCompileTablePx55
import Derived.Test.YtnccomklpfbcpaaYFnExactCompileTablePx57
import Derived.Test.YtnccomklpfbcpaaOwnW
import Derived.Test.YtnccomklpfbcpaaYFnExactCompileTablePx70
import Derived.Test.YtnccomklpfbcpaaYFnExactCompileTablePx15
import Derived.Test.YtnccomklpfbcpaaYFnExactCompileTableABo
import Derived.Test.YtnccomklpfbcpaaYFnExactCompileTablePx16
import Derived.Test.YtnccomklpfbcpaaYFnExactCompileTableVQ
import Derived.Deep.Slices
import Derived.ChangeSame
import Derived.ChangeArms
import Derived.Test.YtnccomklpfbcpaaWWords
import Derived.Test.YtnccomklpfbcpaaRows
import Derived.WalkKit
import Derived.ProofKit
import Derived.OpenShut
import Derived.ShutString
import Derived.ChangeOld
import Derived.Below
import Derived.SizedLaws
section
/- The walk of FnExactCompileTable along the one way on which all its tests succeed, and the short ones where an argument is too great. -/
namespace Go.Proofs.Ytnccomklpfbcpaa.P
open Go.RowKit Go.Proofs.YtnccomklpfbcpaaW.PrintWords Go.Proofs.YtnccomklpfbcpaaW.PrintLast Go.Proofs.YtnccomklpfbcpaaW.PrintMore Go.Proofs.Ytnccomklpfbcpaa
set_option linter.unusedVariables false
set_option linter.unusedSimpArgs false
set_option maxHeartbeats 4000000 in
set_option maxRecDepth 100000 in
theorem FnExactCompileTable_small0 (k : Nat) (a0_0 : Int) (A0_1 : Option Addr) (c0_1 : Nat) (l0_1 : List (Int)) (z_aT : Int) (w : World)
    (hr0_1 : Kd.C (Kd.int .i64) w A0_1 l0_1.length l0_1) (hc0_1 : l0_1.length ≤ c0_1)
    (e_sz_aT : laws_szTable.f a0_0 l0_1 1048576 = some z_aT)
    (hz_aT : z_aT < 0) :
    Calls Try.prog 7 #[.agg #[.int .i64 a0_0, .slice A0_1 l0_1.length c0_1]] w fun e w' => e = .returned (.bool true) ∧ Below w.heap.size w w' := by
  have hu39 := Try.underlying39
  have hu28 := Try.underlying28
  have hu24 := Try.underlying24
  have hzb_aT : decide (z_aT < 0) = true := decide_eq_true (by omega)
  have HR0_1 := Aside0.mk hr0_1
  clear hr0_1
  have HC0_1 := Aside0.mk hc0_1
  clear hc0_1
  have He_sz_aT := Aside0.mk e_sz_aT
  clear e_sz_aT
  have HB := Aside0.mk (Below.refl w.heap.size w)
  go_enter Try.func7, Try.ntmps7
  go_wp2_with fail
  refine (laws_szTable.calls _ _ _ _ _ _ _ (Kd.C_below HR0_1.out (below_step HB.out (by repeat (first | with_reducible exact Below.refl _ _ | with_reducible apply below_alloc | with_reducible refine below_set ?_ (Nat.le_refl _) | with_reducible apply pw_below_drewN | with_reducible apply below_drew1)))) HC0_1.out He_sz_aT.out).mono ?_
  rintro e w1 ⟨rfl, hb⟩
  have BK_aT := Aside0.mk (blk_below (g := w.heap.size) (o := .cells #[.int .i64 a0_0, .slice A0_1 l0_1.length c0_1] 24 (0, 0)) (by (repeat (first | with_reducible refine blk_drewN ?_ _ | with_reducible refine blk_drew ?_)); exact (blk_new _ _)) hb)
  have HG_BK_aT : Aside0 (w.heap.size < w1.heap.size) := ⟨blk_lt BK_aT.out⟩
  have HW := Aside0.mk (below_step (w := w) (by repeat (first | with_reducible exact Below.refl _ _ | with_reducible apply below_alloc | with_reducible refine below_set ?_ (Nat.le_refl _) | with_reducible apply pw_below_drewN | with_reducible apply below_drew1)) hb)
  have HZ1 : Aside0 (w.heap.size ≤ w1.heap.size) := ⟨HW.out.size⟩
  replace HB := Aside0.mk (below_step HB.out HW.out)
  clear hb HW
  have czBK_aT_0 : w1.cell? ⟨w.heap.size, 0, none⟩ = some (.int .i64 a0_0) := (blk_cell BK_aT.out 0).trans rfl
  have czBK_aT_1 : w1.cell? ⟨w.heap.size, 1, none⟩ = some (.slice A0_1 l0_1.length c0_1) := (blk_cell BK_aT.out 1).trans rfl
  go_wp2_with fail
  go_ret
  exact ⟨rfl, below_step HB.out (by repeat (first | with_reducible exact Below.refl _ _ | with_reducible apply below_alloc | with_reducible refine below_set ?_ (Nat.le_refl _) | with_reducible apply pw_below_drewN | with_reducible apply below_drew1))⟩
set_option maxHeartbeats 4000000 in
set_option maxRecDepth 100000 in
theorem FnExactCompileTable_walk (k : Nat) (a0_0 : Int) (A0_1 : Option Addr) (c0_1 : Nat) (l0_1 : List (Int)) (z_aT : Int) (r0_0 : Int) (r0_1 : Int) (r0_2 : List (S72)) (r1 : Int) (r2 : Bool) (s0_2 : List (S72)) (kx0 : Int) (nx0_1 : List (Int)) (mg0 : Int) (ng0_2 : List (S72)) (w : World)
    (hr0_1 : Kd.C (Kd.int .i64) w A0_1 l0_1.length l0_1) (hc0_1 : l0_1.length ≤ c0_1)
    (e_sz_aT : laws_szTable.f a0_0 l0_1 1048576 = some z_aT)
    (hz_aT : 0 ≤ z_aT)
    (e_to_aT : laws_toTable.f k a0_0 l0_1 = some (a0_0, l0_1))
    (e_spec : spec_CompileTable.f k a0_0 l0_1 = some (r0_0, r0_1, r0_2, r1, r2))
    (e_impl : impl_CompileTable.f k a0_0 l0_1 = some (r0_0, r0_1, s0_2, r1, r2))
    (e_eq_w0 : laws_eqBoard.f k r0_0 r0_1 s0_2 r0_0 r0_1 r0_2 = some true)
    (e_eq_x0 : laws_eqTable.f k a0_0 l0_1 a0_0 l0_1 = some true)
    (e_mark_x0 : laws_markTable.f k a0_0 l0_1 1 = some (kx0, nx0_1))
    (hkx0 : 0 ≤ kx0)
    (e_mark_g0 : laws_markBoard.f k r0_0 r0_1 s0_2 1 = some (mg0, ng0_2))
    (hmg0 : 0 ≤ mg0)
    (e_held_g0 : laws_heldBoard.f k r0_0 r0_1 ng0_2 1 = some mg0) :
    Calls Try.prog 7 #[.agg #[.int .i64 a0_0, .slice A0_1 l0_1.length c0_1]] w fun e w' => e = .returned (.bool true) ∧ Below w.heap.size w w' := by
  have hu39 := Try.underlying39
  have hu28 := Try.underlying28
  have hu24 := Try.underlying24
  have hzb_aT : decide (z_aT < 0) = false := decide_eq_false (by omega)
  have HR0_1 := Aside0.mk hr0_1
  clear hr0_1
  have HC0_1 := Aside0.mk hc0_1
  clear hc0_1
  have He_sz_aT := Aside0.mk e_sz_aT
  clear e_sz_aT
  have He_to_aT := Aside0.mk e_to_aT
  clear e_to_aT
  have He_spec := Aside0.mk e_spec
  clear e_spec
  have He_impl := Aside0.mk e_impl
  clear e_impl
  have He_eq_w0 := Aside0.mk e_eq_w0
  clear e_eq_w0
  have He_eq_x0 := Aside0.mk e_eq_x0
  clear e_eq_x0
  have He_mark_x0 := Aside0.mk e_mark_x0
  clear e_mark_x0
  have hkb_x0 : decide (kx0 < 0) = false := decide_eq_false (by omega)
  have He_mark_g0 := Aside0.mk e_mark_g0
  clear e_mark_g0
  have hmb_g0 : decide (mg0 < 0) = false := decide_eq_false (by omega)
  have He_held_g0 := Aside0.mk e_held_g0
  clear e_held_g0
  have HB := Aside0.mk (Below.refl w.heap.size w)
  go_enter Try.func7, Try.ntmps7
  go_wp2_with fail
  refine (laws_szTable.calls _ _ _ _ _ _ _ (Kd.C_below HR0_1.out (below_step HB.out (by repeat (first | with_reducible exact Below.refl _ _ | with_reducible apply below_alloc | with_reducible refine below_set ?_ (Nat.le_refl _) | with_reducible apply pw_below_drewN | with_reducible apply below_drew1)))) HC0_1.out He_sz_aT.out).mono ?_
  rintro e w1 ⟨rfl, hb⟩
  have BK_aT := Aside0.mk (blk_below (g := w.heap.size) (o := .cells #[.int .i64 a0_0, .slice A0_1 l0_1.length c0_1] 24 (0, 0)) (by (repeat (first | with_reducible refine blk_drewN ?_ _ | with_reducible refine blk_drew ?_)); exact (blk_new _ _)) hb)
  have HG_BK_aT : Aside0 (w.heap.size < w1.heap.size) := ⟨blk_lt BK_aT.out⟩
  have HW := Aside0.mk (below_step (w := w) (by repeat (first | with_reducible exact Below.refl _ _ | with_reducible apply below_alloc | with_reducible refine below_set ?_ (Nat.le_refl _) | with_reducible apply pw_below_drewN | with_reducible apply below_drew1)) hb)
  have HZ1 : Aside0 (w.heap.size ≤ w1.heap.size) := ⟨HW.out.size⟩
  replace HB := Aside0.mk (below_step HB.out HW.out)
  clear hb HW
  have czBK_aT_0 : w1.cell? ⟨w.heap.size, 0, none⟩ = some (.int .i64 a0_0) := (blk_cell BK_aT.out 0).trans rfl
  have czBK_aT_1 : w1.cell? ⟨w.heap.size, 1, none⟩ = some (.slice A0_1 l0_1.length c0_1) := (blk_cell BK_aT.out 1).trans rfl
  go_wp2_with fail
  refine (laws_toTable.calls k _ _ _ _ _ _ _ (Kd.C_below HR0_1.out (below_step HB.out (by repeat (first | with_reducible exact Below.refl _ _ | with_reducible apply below_alloc | with_reducible refine below_set ?_ (Nat.le_refl _) | with_reducible apply pw_below_drewN | with_reducible apply below_drew1)))) HC0_1.out He_to_aT.out).mono ?_
  rintro e w2 ⟨vt13_0, rfl, hf1, hb⟩
  clear czBK_aT_0 czBK_aT_1
  have HN := Aside0.mk HB.out.size
  have HW := Aside0.mk (below_step (w := w1) (by repeat (first | with_reducible exact Below.refl _ _ | with_reducible apply below_alloc | with_reducible refine below_set ?_ (Nat.le_refl _) | with_reducible apply pw_below_drewN | with_reducible apply below_drew1)) hb)
  have HZ2 : Aside0 (w1.heap.size ≤ w2.heap.size) := ⟨HW.out.size⟩
  replace HB := Aside0.mk (below_step HB.out HW.out)
  replace BK_aT := Aside0.mk (blk_below BK_aT.out HW.out)
  obtain ⟨lo1_, F1, HLO1⟩ := Own.R_iv (wN := w1) rfl hf1 HN.out (by repeat (first | with_reducible exact Below.refl _ _ | with_reducible apply below_alloc | with_reducible refine below_set ?_ (Nat.le_refl _) | with_reducible apply pw_below_drewN | with_reducible apply below_drew1)) hb
  obtain ⟨A1_, c1_, e1_⟩ := Kd.R_slice F1.out
  subst e1_
  clear hb HW HN hf1
  have czBK_aT_0 : w2.cell? ⟨w.heap.size, 0, none⟩ = some (.int .i64 a0_0) := (blk_cell BK_aT.out 0).trans rfl
  have czBK_aT_1 : w2.cell? ⟨w.heap.size, 1, none⟩ = some (.slice A0_1 l0_1.length c0_1) := (blk_cell BK_aT.out 1).trans rfl
  go_wp2_with fail
  refine (spec_CompileTable.calls k _ _ _ _ _ _ _ _ _ _ (Kd.C_below (Kd.R_reads' F1.out).2.2 (by repeat (first | with_reducible exact Below.refl _ _ | with_reducible apply below_alloc | with_reducible refine below_set ?_ (Nat.le_refl _) | with_reducible apply pw_below_drewN | with_reducible apply below_drew1))) (Kd.R_reads' F1.out).2.1 He_spec.out).mono ?_
  rintro e w3 ⟨vw0_0, rfl, hf2, hb⟩
  clear czBK_aT_0 czBK_aT_1
  have HN := Aside0.mk HB.out.size
  have HW := Aside0.mk (below_step (w := w2) (by repeat (first | with_reducible exact Below.refl _ _ | with_reducible apply below_alloc | with_reducible refine below_set ?_ (Nat.le_refl _) | with_reducible apply pw_below_drewN | with_reducible apply below_drew1)) hb)
  have HZ3 : Aside0 (w2.heap.size ≤ w3.heap.size) := ⟨HW.out.size⟩
  replace HB := Aside0.mk (below_step HB.out HW.out)
  replace F1 := Aside0.mk (Kd.R_below F1.out HW.out)
  replace BK_aT := Aside0.mk (blk_below BK_aT.out HW.out)
  obtain ⟨lo2_, F2, HLO2⟩ := Own.R_iv (wN := w2) rfl hf2 HN.out (by repeat (first | with_reducible exact Below.refl _ _ | with_reducible apply below_alloc | with_reducible refine below_set ?_ (Nat.le_refl _) | with_reducible apply pw_below_drewN | with_reducible apply below_drew1)) hb
  obtain ⟨A2_, c2_, e2_⟩ := Kd.R_slice F2.out
  subst e2_
  clear hb HW HN hf2
  have czBK_aT_0 : (w3.alloc (.cells #[.int .i64 r0_0, .int .i64 r0_1, .slice A2_ r0_2.length c2_] 39)).cell? ⟨w.heap.size, 0, none⟩ = some (.int .i64 a0_0) := (blk_cell (blk_alloc BK_aT.out _) 0).trans rfl
  have czBK_aT_1 : (w3.alloc (.cells #[.int .i64 r0_0, .int .i64 r0_1, .slice A2_ r0_2.length c2_] 39)).cell? ⟨w.heap.size, 1, none⟩ = some (.slice A0_1 l0_1.length c0_1) := (blk_cell (blk_alloc BK_aT.out _) 1).trans rfl
  go_wp2_with fail
  refine (laws_toTable.calls k _ _ _ _ _ _ _ (Kd.C_below HR0_1.out (below_step HB.out (by repeat (first | with_reducible exact Below.refl _ _ | with_reducible apply below_alloc | with_reducible refine below_set ?_ (Nat.le_refl _) | with_reducible apply pw_below_drewN | with_reducible apply below_drew1)))) HC0_1.out He_to_aT.out).mono ?_
  rintro e w4 ⟨vx0_0, rfl, hf3, hb⟩
  clear czBK_aT_0 czBK_aT_1
  have HN := Aside0.mk HB.out.size
  have BK_w0 := Aside0.mk (blk_below (g := w3.heap.size) (o := .cells #[.int .i64 r0_0, .int .i64 r0_1, .slice A2_ r0_2.length c2_] 39 (0, 0)) (by (repeat (first | with_reducible refine blk_drewN ?_ _ | with_reducible refine blk_drew ?_)); exact (blk_new _ _)) hb)
  have HG_BK_w0 : Aside0 (w3.heap.size < w4.heap.size) := ⟨blk_lt BK_w0.out⟩
  have HW := Aside0.mk (below_step (w := w3) (by repeat (first | with_reducible exact Below.refl _ _ | with_reducible apply below_alloc | with_reducible refine below_set ?_ (Nat.le_refl _) | with_reducible apply pw_below_drewN | with_reducible apply below_drew1)) hb)
  have HZ4 : Aside0 (w3.heap.size ≤ w4.heap.size) := ⟨HW.out.size⟩
  replace HB := Aside0.mk (below_step HB.out HW.out)
  replace F1 := Aside0.mk (Kd.R_below F1.out HW.out)
  replace F2 := Aside0.mk (Kd.R_below F2.out HW.out)
  replace BK_aT := Aside0.mk (blk_below BK_aT.out HW.out)
  obtain ⟨lo3_, F3, HLO3⟩ := Own.R_ivb (wN := w3) (w3.heap.size) rfl hf3 HN.out (by repeat (first | with_reducible exact Below.refl _ _ | with_reducible apply below_alloc | with_reducible refine below_set ?_ (Nat.le_refl _) | with_reducible apply pw_below_drewN | with_reducible apply below_drew1)) hb (blk_lt (o := .cells #[.int .i64 r0_0, .int .i64 r0_1, .slice A2_ r0_2.length c2_] 39 (0, 0)) (by (repeat (first | with_reducible refine blk_drewN ?_ _ | with_reducible refine blk_drew ?_)); exact (blk_new _ _)))
  obtain ⟨A3_, c3_, e3_⟩ := Kd.R_slice F3.out
  subst e3_
  clear hb HW HN hf3
  have czBK_aT_0 : (w4.alloc (.cells #[.int .i64 a0_0, .slice A3_ l0_1.length c3_] 28)).cell? ⟨w.heap.size, 0, none⟩ = some (.int .i64 a0_0) := (blk_cell (blk_alloc BK_aT.out _) 0).trans rfl
  have czBK_aT_1 : (w4.alloc (.cells #[.int .i64 a0_0, .slice A3_ l0_1.length c3_] 28)).cell? ⟨w.heap.size, 1, none⟩ = some (.slice A0_1 l0_1.length c0_1) := (blk_cell (blk_alloc BK_aT.out _) 1).trans rfl
  have czBK_w0_0 : (w4.alloc (.cells #[.int .i64 a0_0, .slice A3_ l0_1.length c3_] 28)).cell? ⟨w3.heap.size, 0, none⟩ = some (.int .i64 r0_0) := (blk_cell (blk_alloc BK_w0.out _) 0).trans rfl
  have czBK_w0_1 : (w4.alloc (.cells #[.int .i64 a0_0, .slice A3_ l0_1.length c3_] 28)).cell? ⟨w3.heap.size, 1, none⟩ = some (.int .i64 r0_1) := (blk_cell (blk_alloc BK_w0.out _) 1).trans rfl
  have czBK_w0_2 : (w4.alloc (.cells #[.int .i64 a0_0, .slice A3_ l0_1.length c3_] 28)).cell? ⟨w3.heap.size, 2, none⟩ = some (.slice A2_ r0_2.length c2_) := (blk_cell (blk_alloc BK_w0.out _) 2).trans rfl
  go_wp2_with fail
  refine (impl_CompileTable.calls k _ _ _ _ _ _ _ _ _ _ (Kd.C_below (Kd.R_reads' F3.out).2.2 (by repeat (first | with_reducible exact Below.refl _ _ | with_reducible apply below_alloc | with_reducible refine below_set ?_ (Nat.le_refl _) | with_reducible apply pw_below_drewN | with_reducible apply below_drew1))) (Kd.R_reads' F3.out).2.1 He_impl.out).mono ?_
  rintro e w5 ⟨vg0_0, rfl, hf4, hb⟩
  clear czBK_aT_0 czBK_aT_1 czBK_w0_0 czBK_w0_1 czBK_w0_2
  have HN := Aside0.mk HB.out.size
  have BK_x0 := Aside0.mk (blk_below (g := w4.heap.size) (o := .cells #[.int .i64 a0_0, .slice A3_ l0_1.length c3_] 28 (0, 0)) (by (repeat (first | with_reducible refine blk_drewN ?_ _ | with_reducible refine blk_drew ?_)); exact (blk_new _ _)) hb)
  have HG_BK_x0 : Aside0 (w4.heap.size < w5.heap.size) := ⟨blk_lt BK_x0.out⟩
  have HW := Aside0.mk (below_step (w := w4) (by repeat (first | with_reducible exact Below.refl _ _ | with_reducible apply below_alloc | with_reducible refine below_set ?_ (Nat.le_refl _) | with_reducible apply pw_below_drewN | with_reducible apply below_drew1)) hb)
  have HZ5 : Aside0 (w4.heap.size ≤ w5.heap.size) := ⟨HW.out.size⟩
  replace HB := Aside0.mk (below_step HB.out HW.out)
  replace F1 := Aside0.mk (Kd.R_below F1.out HW.out)
  replace F2 := Aside0.mk (Kd.R_below F2.out HW.out)
  replace F3 := Aside0.mk (Kd.R_below F3.out HW.out)
  replace BK_aT := Aside0.mk (blk_below BK_aT.out HW.out)
  replace BK_w0 := Aside0.mk (blk_below BK_w0.out HW.out)
  obtain ⟨lo4_, F4, HLO4⟩ := Own.R_ivb (wN := w4) (w4.heap.size) rfl hf4 HN.out (by repeat (first | with_reducible exact Below.refl _ _ | with_reducible apply below_alloc | with_reducible refine below_set ?_ (Nat.le_refl _) | with_reducible apply pw_below_drewN | with_reducible apply below_drew1)) hb (blk_lt (o := .cells #[.int .i64 a0_0, .slice A3_ l0_1.length c3_] 28 (0, 0)) (by (repeat (first | with_reducible refine blk_drewN ?_ _ | with_reducible refine blk_drew ?_)); exact (blk_new _ _)))
  obtain ⟨A4_, c4_, e4_⟩ := Kd.R_slice F4.out
  subst e4_
  clear hb HW HN hf4
  have czBK_aT_0 : (w5.alloc (.cells #[.int .i64 r0_0, .int .i64 r0_1, .slice A4_ s0_2.length c4_] 39)).cell? ⟨w.heap.size, 0, none⟩ = some (.int .i64 a0_0) := (blk_cell (blk_alloc BK_aT.out _) 0).trans rfl
  have czBK_aT_1 : (w5.alloc (.cells #[.int .i64 r0_0, .int .i64 r0_1, .slice A4_ s0_2.length c4_] 39)).cell? ⟨w.heap.size, 1, none⟩ = some (.slice A0_1 l0_1.length c0_1) := (blk_cell (blk_alloc BK_aT.out _) 1).trans rfl
  have czBK_w0_0 : (w5.alloc (.cells #[.int .i64 r0_0, .int .i64 r0_1, .slice A4_ s0_2.length c4_] 39)).cell? ⟨w3.heap.size, 0, none⟩ = some (.int .i64 r0_0) := (blk_cell (blk_alloc BK_w0.out _) 0).trans rfl
  have czBK_w0_1 : (w5.alloc (.cells #[.int .i64 r0_0, .int .i64 r0_1, .slice A4_ s0_2.length c4_] 39)).cell? ⟨w3.heap.size, 1, none⟩ = some (.int .i64 r0_1) := (blk_cell (blk_alloc BK_w0.out _) 1).trans rfl
  have czBK_w0_2 : (w5.alloc (.cells #[.int .i64 r0_0, .int .i64 r0_1, .slice A4_ s0_2.length c4_] 39)).cell? ⟨w3.heap.size, 2, none⟩ = some (.slice A2_ r0_2.length c2_) := (blk_cell (blk_alloc BK_w0.out _) 2).trans rfl
  have czBK_x0_0 : (w5.alloc (.cells #[.int .i64 r0_0, .int .i64 r0_1, .slice A4_ s0_2.length c4_] 39)).cell? ⟨w4.heap.size, 0, none⟩ = some (.int .i64 a0_0) := (blk_cell (blk_alloc BK_x0.out _) 0).trans rfl
  have czBK_x0_1 : (w5.alloc (.cells #[.int .i64 r0_0, .int .i64 r0_1, .slice A4_ s0_2.length c4_] 39)).cell? ⟨w4.heap.size, 1, none⟩ = some (.slice A3_ l0_1.length c3_) := (blk_cell (blk_alloc BK_x0.out _) 1).trans rfl
  go_wp2_with fail
  refine (laws_eqBoard.calls k _ _ _ _ _ _ _ _ _ _ _ _ (Kd.C_below (Kd.R_reads' F4.out).2.2 (by repeat (first | with_reducible exact Below.refl _ _ | with_reducible apply below_alloc | with_reducible refine below_set ?_ (Nat.le_refl _) | with_reducible apply pw_below_drewN | with_reducible apply below_drew1))) (Kd.R_reads' F4.out).2.1 (Kd.C_below (Kd.R_reads' F2.out).2.2 (by repeat (first | with_reducible exact Below.refl _ _ | with_reducible apply below_alloc | with_reducible refine below_set ?_ (Nat.le_refl _) | with_reducible apply pw_below_drewN | with_reducible apply below_drew1))) (Kd.R_reads' F2.out).2.1 He_eq_w0.out).mono ?_
  rintro e w6 ⟨rfl, hb⟩
  clear czBK_aT_0 czBK_aT_1 czBK_w0_0 czBK_w0_1 czBK_w0_2 czBK_x0_0 czBK_x0_1
  have BK_g0 := Aside0.mk (blk_below (g := w5.heap.size) (o := .cells #[.int .i64 r0_0, .int .i64 r0_1, .slice A4_ s0_2.length c4_] 39 (0, 0)) (by (repeat (first | with_reducible refine blk_drewN ?_ _ | with_reducible refine blk_drew ?_)); exact (blk_new _ _)) hb)
  have HG_BK_g0 : Aside0 (w5.heap.size < w6.heap.size) := ⟨blk_lt BK_g0.out⟩
  have HW := Aside0.mk (below_step (w := w5) (by repeat (first | with_reducible exact Below.refl _ _ | with_reducible apply below_alloc | with_reducible refine below_set ?_ (Nat.le_refl _) | with_reducible apply pw_below_drewN | with_reducible apply below_drew1)) hb)
  have HZ6 : Aside0 (w5.heap.size ≤ w6.heap.size) := ⟨HW.out.size⟩
  replace HB := Aside0.mk (below_step HB.out HW.out)
  replace F1 := Aside0.mk (Kd.R_below F1.out HW.out)
  replace F2 := Aside0.mk (Kd.R_below F2.out HW.out)
  replace F3 := Aside0.mk (Kd.R_below F3.out HW.out)
  replace F4 := Aside0.mk (Kd.R_below F4.out HW.out)
  replace BK_aT := Aside0.mk (blk_below BK_aT.out HW.out)
  replace BK_w0 := Aside0.mk (blk_below BK_w0.out HW.out)
  replace BK_x0 := Aside0.mk (blk_below BK_x0.out HW.out)
  clear hb HW
  have czBK_aT_0 : w6.cell? ⟨w.heap.size, 0, none⟩ = some (.int .i64 a0_0) := (blk_cell BK_aT.out 0).trans rfl
  have czBK_aT_1 : w6.cell? ⟨w.heap.size, 1, none⟩ = some (.slice A0_1 l0_1.length c0_1) := (blk_cell BK_aT.out 1).trans rfl
  have czBK_w0_0 : w6.cell? ⟨w3.heap.size, 0, none⟩ = some (.int .i64 r0_0) := (blk_cell BK_w0.out 0).trans rfl
  have czBK_w0_1 : w6.cell? ⟨w3.heap.size, 1, none⟩ = some (.int .i64 r0_1) := (blk_cell BK_w0.out 1).trans rfl
  have czBK_w0_2 : w6.cell? ⟨w3.heap.size, 2, none⟩ = some (.slice A2_ r0_2.length c2_) := (blk_cell BK_w0.out 2).trans rfl
  have czBK_x0_0 : w6.cell? ⟨w4.heap.size, 0, none⟩ = some (.int .i64 a0_0) := (blk_cell BK_x0.out 0).trans rfl
  have czBK_x0_1 : w6.cell? ⟨w4.heap.size, 1, none⟩ = some (.slice A3_ l0_1.length c3_) := (blk_cell BK_x0.out 1).trans rfl
  have czBK_g0_0 : w6.cell? ⟨w5.heap.size, 0, none⟩ = some (.int .i64 r0_0) := (blk_cell BK_g0.out 0).trans rfl
  have czBK_g0_1 : w6.cell? ⟨w5.heap.size, 1, none⟩ = some (.int .i64 r0_1) := (blk_cell BK_g0.out 1).trans rfl
  have czBK_g0_2 : w6.cell? ⟨w5.heap.size, 2, none⟩ = some (.slice A4_ s0_2.length c4_) := (blk_cell BK_g0.out 2).trans rfl
  go_wp2_with fail
  refine start_ (n := 5) (S := fun w' => w'.cell? ⟨w4.heap.size, 0, none⟩ = some (.int .i64 a0_0) ∧ w'.cell? ⟨w4.heap.size, 1, none⟩ = some (.slice A3_ l0_1.length c3_) ∧ w'.cell? ⟨w.heap.size, 0, none⟩ = some (.int .i64 a0_0) ∧ w'.cell? ⟨w.heap.size, 1, none⟩ = some (.slice A0_1 l0_1.length c0_1)) (ds := []) #[false, false, false, false, false] (by kernel_rfl) rfl rfl ⟨(blk_cell BK_x0.out 0).trans rfl, (blk_cell BK_x0.out 1).trans rfl, (blk_cell BK_aT.out 0).trans rfl, (blk_cell BK_aT.out 1).trans rfl⟩ (fun hHeld => ?_)
  refine Own.anew_ (wN := w6) (by repeat (first | with_reducible exact Below.refl _ _ | with_reducible apply below_alloc | with_reducible refine below_set ?_ (Nat.le_refl _) | with_reducible apply pw_below_drewN | with_reducible apply below_drew1)) hHeld (fun w7 hb hHeld => ?_)
  clear czBK_aT_0 czBK_aT_1 czBK_w0_0 czBK_w0_1 czBK_w0_2 czBK_x0_0 czBK_x0_1 czBK_g0_0 czBK_g0_1 czBK_g0_2
  have HW := Aside0.mk hb
  have HZ7 : Aside0 (w6.heap.size ≤ w7.heap.size) := ⟨HW.out.size⟩
  replace HB := Aside0.mk (below_step HB.out HW.out)
  replace F1 := Aside0.mk (Kd.R_below F1.out HW.out)
  replace F2 := Aside0.mk (Kd.R_below F2.out HW.out)
  replace F3 := Aside0.mk (Kd.R_below F3.out HW.out)
  replace F4 := Aside0.mk (Kd.R_below F4.out HW.out)
  replace BK_aT := Aside0.mk (blk_below BK_aT.out HW.out)
  replace BK_w0 := Aside0.mk (blk_below BK_w0.out HW.out)
  replace BK_x0 := Aside0.mk (blk_below BK_x0.out HW.out)
  replace BK_g0 := Aside0.mk (blk_below BK_g0.out HW.out)
  clear hb HW
  refine take_ (i := 0) (N := some 51) (v := ?_) (a' := ?_) #[true, false, false, false, false] rfl rfl (by kernel_rfl) (fun _ _ _ h => h) (Or.inl ⟨by rfl, ?_⟩) hHeld ?_ ?_
  rotate_left
  · rintro w' ⟨s0_, s1_, s2_, s3_⟩
    go_simp
    with_reducible rfl
  rotate_left
  · simp only [Act.put, List.setIfInBounds_toArray, List.set_cons_zero, List.set_cons_succ, i64_w, i32_w]
    rfl
  refine take_ (i := 1) (N := some 52) (v := ?_) (a' := ?_) #[true, true, false, false, false] rfl rfl (by kernel_rfl) (fun _ _ _ h => h) (Or.inl ⟨by rfl, ?_⟩) hHeld ?_ ?_
  rotate_left
  · rintro w' ⟨s0_, s1_, s2_, s3_⟩
    go_simp
    with_reducible rfl
  rotate_left
  · simp only [Act.put, List.setIfInBounds_toArray, List.set_cons_zero, List.set_cons_succ, i64_w, i32_w]
    rfl
  refine one_ (i := 2) (N := some 53) #[true, true, true, false, false] rfl rfl (by kernel_rfl) (by decide) (fun K hK => ?_)
  refine goes_ Try.func11 (by kernel_rfl) rfl #[.agg #[.int .i64 a0_0, .slice A0_1 l0_1.length c0_1]] (by rfl) rfl rfl (by (try simp only [List.map_toArray, List.map_cons, List.map_nil]); first | done | rfl | (simp only [List.length_drop, List.length_take]; rfl)) ?_
  with_reducible refine (laws_toTable.calls k _ _ _ _ _ _ _ (Kd.C_below HR0_1.out (below_step HB.out (by repeat (first | with_reducible exact Below.refl _ _ | with_reducible apply below_alloc | with_reducible refine below_set ?_ (Nat.le_refl _) | with_reducible apply pw_below_drewN | with_reducible apply below_drew1)))) HC0_1.out He_to_aT.out).mono ?_
  rintro e w8 ⟨vq7_0, rfl, hf5, hb⟩
  refine ⟨_, rfl, ?_⟩
  have HN := Aside0.mk HB.out.size
  have HW := Aside0.mk (below_step (w := w7) (by repeat (first | with_reducible exact Below.refl _ _ | with_reducible apply below_alloc | with_reducible refine below_set ?_ (Nat.le_refl _) | with_reducible apply pw_below_drewN | with_reducible apply below_drew1)) hb)
  have HZ8 : Aside0 (w7.heap.size ≤ w8.heap.size) := ⟨HW.out.size⟩
  replace HB := Aside0.mk (below_step HB.out HW.out)
  replace F1 := Aside0.mk (Kd.R_below F1.out HW.out)
  replace F2 := Aside0.mk (Kd.R_below F2.out HW.out)
  replace F3 := Aside0.mk (Kd.R_below F3.out HW.out)
  replace F4 := Aside0.mk (Kd.R_below F4.out HW.out)
  replace BK_aT := Aside0.mk (blk_below BK_aT.out HW.out)
  replace BK_w0 := Aside0.mk (blk_below BK_w0.out HW.out)
  replace BK_x0 := Aside0.mk (blk_below BK_x0.out HW.out)
  replace BK_g0 := Aside0.mk (blk_below BK_g0.out HW.out)
  obtain ⟨lo5_, F5, HLO5⟩ := Own.R_iv (wN := w7) rfl hf5 HN.out (by repeat (first | with_reducible exact Below.refl _ _ | with_reducible apply below_alloc | with_reducible refine below_set ?_ (Nat.le_refl _) | with_reducible apply pw_below_drewN | with_reducible apply below_drew1)) hb
  obtain ⟨A5_, c5_, e5_⟩ := Kd.R_slice F5.out
  subst e5_
  clear hb HW HN hf5
  refine hK.out _ _ ⟨(blk_cell BK_x0.out 0).trans rfl, (blk_cell BK_x0.out 1).trans rfl, (blk_cell BK_aT.out 0).trans rfl, (blk_cell BK_aT.out 1).trans rfl⟩ (fun hHeld => ?_)
  clear hK K
  refine norm_ (a' := ?_) ?_ ?_
  rotate_left
  · show Act.put _ (some 53) _ = _
    simp only [Act.put, List.setIfInBounds_toArray, List.set_cons_zero, List.set_cons_succ, i64_w, i32_w]
    rfl
  refine one_ (i := 3) (N := some 54) #[true, true, true, true, false] rfl rfl (by kernel_rfl) (by decide) (fun K hK => ?_)
  refine goes_ Try.func13 (by kernel_rfl) rfl #[.agg #[.int .i64 a0_0, .slice A3_ l0_1.length c3_], .agg #[.int .i64 a0_0, .slice A5_ l0_1.length c5_]] (by rfl) rfl rfl (by (try simp only [List.map_toArray, List.map_cons, List.map_nil]); first | done | rfl | (simp only [List.length_drop, List.length_take]; rfl)) ?_
  with_reducible refine (laws_eqTable.calls k _ _ _ _ _ _ _ _ _ _ (Kd.C_below (Kd.R_reads' F3.out).2.2 (by repeat (first | with_reducible exact Below.refl _ _ | with_reducible apply below_alloc | with_reducible refine below_set ?_ (Nat.le_refl _) | with_reducible apply pw_below_drewN | with_reducible apply below_drew1))) (Kd.R_reads' F3.out).2.1 (Kd.C_below (Kd.R_reads' F5.out).2.2 (by repeat (first | with_reducible exact Below.refl _ _ | with_reducible apply below_alloc | with_reducible refine below_set ?_ (Nat.le_refl _) | with_reducible apply pw_below_drewN | with_reducible apply below_drew1))) (Kd.R_reads' F5.out).2.1 He_eq_x0.out).mono ?_
  rintro e w9 ⟨rfl, hb⟩
  refine ⟨_, rfl, ?_⟩
  have HW := Aside0.mk (below_step (w := w8) (by repeat (first | with_reducible exact Below.refl _ _ | with_reducible apply below_alloc | with_reducible refine below_set ?_ (Nat.le_refl _) | with_reducible apply pw_below_drewN | with_reducible apply below_drew1)) hb)
  have HZ9 : Aside0 (w8.heap.size ≤ w9.heap.size) := ⟨HW.out.size⟩
  replace HB := Aside0.mk (below_step HB.out HW.out)
  replace F1 := Aside0.mk (Kd.R_below F1.out HW.out)
  replace F2 := Aside0.mk (Kd.R_below F2.out HW.out)
  replace F3 := Aside0.mk (Kd.R_below F3.out HW.out)
  replace F4 := Aside0.mk (Kd.R_below F4.out HW.out)
  replace BK_aT := Aside0.mk (blk_below BK_aT.out HW.out)
  replace BK_w0 := Aside0.mk (blk_below BK_w0.out HW.out)
  replace BK_x0 := Aside0.mk (blk_below BK_x0.out HW.out)
  replace BK_g0 := Aside0.mk (blk_below BK_g0.out HW.out)
  clear hb HW
  refine hK.out _ _ ⟨(blk_cell BK_x0.out 0).trans rfl, (blk_cell BK_x0.out 1).trans rfl, (blk_cell BK_aT.out 0).trans rfl, (blk_cell BK_aT.out 1).trans rfl⟩ (fun hHeld => ?_)
  clear hK K
  refine norm_ (a' := ?_) ?_ ?_
  rotate_left
  · show Act.put _ (some 54) _ = _
    simp only [Act.put, List.setIfInBounds_toArray, List.set_cons_zero, List.set_cons_succ, i64_w, i32_w]
    rfl
  refine pure_ (i := 4) (N := some 55) (v := ?_) (a' := ?_) #[true, true, true, true, true] rfl rfl (by kernel_rfl) (fun _ _ _ h => h) (Or.inl ⟨by rfl, ?_⟩) ?_ ?_
  rotate_left
  · intro w'
    go_simp
    with_reducible rfl
  rotate_left
  · simp only [Act.put, List.setIfInBounds_toArray, List.set_cons_zero, List.set_cons_succ, i64_w, i32_w]
    rfl
  refine done_ (by kernel_rfl) ?_
  clear hHeld
  have czBK_aT_0 : w9.cell? ⟨w.heap.size, 0, none⟩ = some (.int .i64 a0_0) := (blk_cell BK_aT.out 0).trans rfl
  have czBK_aT_1 : w9.cell? ⟨w.heap.size, 1, none⟩ = some (.slice A0_1 l0_1.length c0_1) := (blk_cell BK_aT.out 1).trans rfl
  have czBK_w0_0 : w9.cell? ⟨w3.heap.size, 0, none⟩ = some (.int .i64 r0_0) := (blk_cell BK_w0.out 0).trans rfl
  have czBK_w0_1 : w9.cell? ⟨w3.heap.size, 1, none⟩ = some (.int .i64 r0_1) := (blk_cell BK_w0.out 1).trans rfl
  have czBK_w0_2 : w9.cell? ⟨w3.heap.size, 2, none⟩ = some (.slice A2_ r0_2.length c2_) := (blk_cell BK_w0.out 2).trans rfl
  have czBK_x0_0 : w9.cell? ⟨w4.heap.size, 0, none⟩ = some (.int .i64 a0_0) := (blk_cell BK_x0.out 0).trans rfl
  have czBK_x0_1 : w9.cell? ⟨w4.heap.size, 1, none⟩ = some (.slice A3_ l0_1.length c3_) := (blk_cell BK_x0.out 1).trans rfl
  have czBK_g0_0 : w9.cell? ⟨w5.heap.size, 0, none⟩ = some (.int .i64 r0_0) := (blk_cell BK_g0.out 0).trans rfl
  have czBK_g0_1 : w9.cell? ⟨w5.heap.size, 1, none⟩ = some (.int .i64 r0_1) := (blk_cell BK_g0.out 1).trans rfl
  have czBK_g0_2 : w9.cell? ⟨w5.heap.size, 2, none⟩ = some (.slice A4_ s0_2.length c4_) := (blk_cell BK_g0.out 2).trans rfl
  go_wp2_with fail
  refine (laws_markTable.calls k _ _ _ _ _ _ _ w _ (below_step HB.out (by repeat (first | with_reducible exact Below.refl _ _ | with_reducible apply below_alloc | with_reducible refine below_set ?_ (Nat.le_refl _) | with_reducible apply pw_below_drewN | with_reducible apply below_drew1))) (Kd.R_below F3.out (by repeat (first | with_reducible exact Below.refl _ _ | with_reducible apply below_alloc | with_reducible refine below_set ?_ (Nat.le_refl _) | with_reducible apply pw_below_drewN | with_reducible apply below_drew1))) He_mark_x0.out).mono ?_
  rintro e w10 ⟨rfl, hf_F3, hb, hk⟩
  clear czBK_aT_0 czBK_aT_1 czBK_w0_0 czBK_w0_1 czBK_w0_2 czBK_x0_0 czBK_x0_1 czBK_g0_0 czBK_g0_1 czBK_g0_2
  have HW := Aside0.mk ((Kept.of_below (w := w9) (by repeat (first | with_reducible exact Below.refl _ _ | with_reducible apply below_alloc | with_reducible refine below_set ?_ (Nat.le_refl _) | with_reducible apply pw_below_drewN | with_reducible apply below_drew1)) _).then_ hk (fun _ h_ => .inl h_))
  have HZ10 : Aside0 (w9.heap.size ≤ w10.heap.size) := ⟨HW.out.1⟩
  replace HB := Aside0.mk hb
  replace F1 := Aside0.mk (Kd.R_kept F1.out HW.out (fun k_ h1 h2 => by have z1_ := HZ1.out; have z2_ := HZ2.out; have z3_ := HZ3.out; have z4_ := HZ4.out; have z5_ := HZ5.out; have z6_ := HZ6.out; have z7_ := HZ7.out; have z8_ := HZ8.out; have z9_ := HZ9.out; have zg0_ := HG_BK_aT.out; have zg1_ := HG_BK_w0.out; have zg2_ := HG_BK_x0.out; have zg3_ := HG_BK_g0.out; have zl0_ := HLO1.out; have zl1_ := HLO2.out; have zl2_ := HLO3.out; have zl3_ := HLO4.out; have zl4_ := HLO5.out; omega))
  replace F2 := Aside0.mk (Kd.R_kept F2.out HW.out (fun k_ h1 h2 => by have z1_ := HZ1.out; have z2_ := HZ2.out; have z3_ := HZ3.out; have z4_ := HZ4.out; have z5_ := HZ5.out; have z6_ := HZ6.out; have z7_ := HZ7.out; have z8_ := HZ8.out; have z9_ := HZ9.out; have zg0_ := HG_BK_aT.out; have zg1_ := HG_BK_w0.out; have zg2_ := HG_BK_x0.out; have zg3_ := HG_BK_g0.out; have zl0_ := HLO1.out; have zl1_ := HLO2.out; have zl2_ := HLO3.out; have zl3_ := HLO4.out; have zl4_ := HLO5.out; omega))
  replace F4 := Aside0.mk (Kd.R_kept F4.out HW.out (fun k_ h1 h2 => by have z1_ := HZ1.out; have z2_ := HZ2.out; have z3_ := HZ3.out; have z4_ := HZ4.out; have z5_ := HZ5.out; have z6_ := HZ6.out; have z7_ := HZ7.out; have z8_ := HZ8.out; have z9_ := HZ9.out; have zg0_ := HG_BK_aT.out; have zg1_ := HG_BK_w0.out; have zg2_ := HG_BK_x0.out; have zg3_ := HG_BK_g0.out; have zl0_ := HLO1.out; have zl1_ := HLO2.out; have zl2_ := HLO3.out; have zl3_ := HLO4.out; have zl4_ := HLO5.out; omega))
  replace BK_aT := Aside0.mk (blk_kept BK_aT.out HW.out (fun h2 => by have z1_ := HZ1.out; have z2_ := HZ2.out; have z3_ := HZ3.out; have z4_ := HZ4.out; have z5_ := HZ5.out; have z6_ := HZ6.out; have z7_ := HZ7.out; have z8_ := HZ8.out; have z9_ := HZ9.out; have zg0_ := HG_BK_aT.out; have zg1_ := HG_BK_w0.out; have zg2_ := HG_BK_x0.out; have zg3_ := HG_BK_g0.out; have zl0_ := HLO1.out; have zl1_ := HLO2.out; have zl2_ := HLO3.out; have zl3_ := HLO4.out; have zl4_ := HLO5.out; omega))
  replace BK_w0 := Aside0.mk (blk_kept BK_w0.out HW.out (fun h2 => by have z1_ := HZ1.out; have z2_ := HZ2.out; have z3_ := HZ3.out; have z4_ := HZ4.out; have z5_ := HZ5.out; have z6_ := HZ6.out; have z7_ := HZ7.out; have z8_ := HZ8.out; have z9_ := HZ9.out; have zg0_ := HG_BK_aT.out; have zg1_ := HG_BK_w0.out; have zg2_ := HG_BK_x0.out; have zg3_ := HG_BK_g0.out; have zl0_ := HLO1.out; have zl1_ := HLO2.out; have zl2_ := HLO3.out; have zl3_ := HLO4.out; have zl4_ := HLO5.out; omega))
  replace BK_x0 := Aside0.mk (blk_kept BK_x0.out HW.out (fun h2 => by have z1_ := HZ1.out; have z2_ := HZ2.out; have z3_ := HZ3.out; have z4_ := HZ4.out; have z5_ := HZ5.out; have z6_ := HZ6.out; have z7_ := HZ7.out; have z8_ := HZ8.out; have z9_ := HZ9.out; have zg0_ := HG_BK_aT.out; have zg1_ := HG_BK_w0.out; have zg2_ := HG_BK_x0.out; have zg3_ := HG_BK_g0.out; have zl0_ := HLO1.out; have zl1_ := HLO2.out; have zl2_ := HLO3.out; have zl3_ := HLO4.out; have zl4_ := HLO5.out; omega))
  replace BK_g0 := Aside0.mk (blk_kept BK_g0.out HW.out (fun h2 => by have z1_ := HZ1.out; have z2_ := HZ2.out; have z3_ := HZ3.out; have z4_ := HZ4.out; have z5_ := HZ5.out; have z6_ := HZ6.out; have z7_ := HZ7.out; have z8_ := HZ8.out; have z9_ := HZ9.out; have zg0_ := HG_BK_aT.out; have zg1_ := HG_BK_w0.out; have zg2_ := HG_BK_x0.out; have zg3_ := HG_BK_g0.out; have zl0_ := HLO1.out; have zl1_ := HLO2.out; have zl2_ := HLO3.out; have zl3_ := HLO4.out; have zl4_ := HLO5.out; omega))
  replace F3 := Aside0.mk (Own.R_ok hf_F3 F3.out.1)
  have HQ := Aside0.mk (Kd.R_reads' F3.out).1
  rw [HQ.out] at F3
  rw [HQ.out] at BK_x0
  clear HQ
  clear hb hk HW hf_F3
  have czBK_aT_0 : w10.cell? ⟨w.heap.size, 0, none⟩ = some (.int .i64 a0_0) := (blk_cell BK_aT.out 0).trans rfl
  have czBK_aT_1 : w10.cell? ⟨w.heap.size, 1, none⟩ = some (.slice A0_1 l0_1.length c0_1) := (blk_cell BK_aT.out 1).trans rfl
  have czBK_w0_0 : w10.cell? ⟨w3.heap.size, 0, none⟩ = some (.int .i64 r0_0) := (blk_cell BK_w0.out 0).trans rfl
  have czBK_w0_1 : w10.cell? ⟨w3.heap.size, 1, none⟩ = some (.int .i64 r0_1) := (blk_cell BK_w0.out 1).trans rfl
  have czBK_w0_2 : w10.cell? ⟨w3.heap.size, 2, none⟩ = some (.slice A2_ r0_2.length c2_) := (blk_cell BK_w0.out 2).trans rfl
  have czBK_x0_0 : w10.cell? ⟨w4.heap.size, 0, none⟩ = some (.int .i64 a0_0) := (blk_cell BK_x0.out 0).trans rfl
  have czBK_x0_1 : w10.cell? ⟨w4.heap.size, 1, none⟩ = some (.slice A3_ nx0_1.length c3_) := (blk_cell BK_x0.out 1).trans rfl
  have czBK_g0_0 : w10.cell? ⟨w5.heap.size, 0, none⟩ = some (.int .i64 r0_0) := (blk_cell BK_g0.out 0).trans rfl
  have czBK_g0_1 : w10.cell? ⟨w5.heap.size, 1, none⟩ = some (.int .i64 r0_1) := (blk_cell BK_g0.out 1).trans rfl
  have czBK_g0_2 : w10.cell? ⟨w5.heap.size, 2, none⟩ = some (.slice A4_ s0_2.length c4_) := (blk_cell BK_g0.out 2).trans rfl
  go_wp2_with fail
  refine (laws_eqBoard.calls k _ _ _ _ _ _ _ _ _ _ _ _ (Kd.C_below (Kd.R_reads' F4.out).2.2 (by repeat (first | with_reducible exact Below.refl _ _ | with_reducible apply below_alloc | with_reducible refine below_set ?_ (Nat.le_refl _) | with_reducible apply pw_below_drewN | with_reducible apply below_drew1))) (Kd.R_reads' F4.out).2.1 (Kd.C_below (Kd.R_reads' F2.out).2.2 (by repeat (first | with_reducible exact Below.refl _ _ | with_reducible apply below_alloc | with_reducible refine below_set ?_ (Nat.le_refl _) | with_reducible apply pw_below_drewN | with_reducible apply below_drew1))) (Kd.R_reads' F2.out).2.1 He_eq_w0.out).mono ?_
  rintro e w11 ⟨rfl, hb⟩
  clear czBK_aT_0 czBK_aT_1 czBK_w0_0 czBK_w0_1 czBK_w0_2 czBK_x0_0 czBK_x0_1 czBK_g0_0 czBK_g0_1 czBK_g0_2
  have HW := Aside0.mk (below_step (w := w10) (by repeat (first | with_reducible exact Below.refl _ _ | with_reducible apply below_alloc | with_reducible refine below_set ?_ (Nat.le_refl _) | with_reducible apply pw_below_drewN | with_reducible apply below_drew1)) hb)
  have HZ11 : Aside0 (w10.heap.size ≤ w11.heap.size) := ⟨HW.out.size⟩
  replace HB := Aside0.mk (below_step HB.out HW.out)
  replace F1 := Aside0.mk (Kd.R_below F1.out HW.out)
  replace F2 := Aside0.mk (Kd.R_below F2.out HW.out)
  replace F3 := Aside0.mk (Kd.R_below F3.out HW.out)
  replace F4 := Aside0.mk (Kd.R_below F4.out HW.out)
  replace BK_aT := Aside0.mk (blk_below BK_aT.out HW.out)
  replace BK_w0 := Aside0.mk (blk_below BK_w0.out HW.out)
  replace BK_x0 := Aside0.mk (blk_below BK_x0.out HW.out)
  replace BK_g0 := Aside0.mk (blk_below BK_g0.out HW.out)
  clear hb HW
  have czBK_aT_0 : w11.cell? ⟨w.heap.size, 0, none⟩ = some (.int .i64 a0_0) := (blk_cell BK_aT.out 0).trans rfl
  have czBK_aT_1 : w11.cell? ⟨w.heap.size, 1, none⟩ = some (.slice A0_1 l0_1.length c0_1) := (blk_cell BK_aT.out 1).trans rfl
  have czBK_w0_0 : w11.cell? ⟨w3.heap.size, 0, none⟩ = some (.int .i64 r0_0) := (blk_cell BK_w0.out 0).trans rfl
  have czBK_w0_1 : w11.cell? ⟨w3.heap.size, 1, none⟩ = some (.int .i64 r0_1) := (blk_cell BK_w0.out 1).trans rfl
  have czBK_w0_2 : w11.cell? ⟨w3.heap.size, 2, none⟩ = some (.slice A2_ r0_2.length c2_) := (blk_cell BK_w0.out 2).trans rfl
  have czBK_x0_0 : w11.cell? ⟨w4.heap.size, 0, none⟩ = some (.int .i64 a0_0) := (blk_cell BK_x0.out 0).trans rfl
  have czBK_x0_1 : w11.cell? ⟨w4.heap.size, 1, none⟩ = some (.slice A3_ nx0_1.length c3_) := (blk_cell BK_x0.out 1).trans rfl
  have czBK_g0_0 : w11.cell? ⟨w5.heap.size, 0, none⟩ = some (.int .i64 r0_0) := (blk_cell BK_g0.out 0).trans rfl
  have czBK_g0_1 : w11.cell? ⟨w5.heap.size, 1, none⟩ = some (.int .i64 r0_1) := (blk_cell BK_g0.out 1).trans rfl
  have czBK_g0_2 : w11.cell? ⟨w5.heap.size, 2, none⟩ = some (.slice A4_ s0_2.length c4_) := (blk_cell BK_g0.out 2).trans rfl
  go_wp2_with fail
  refine (laws_markBoard.calls k _ _ _ _ _ _ _ _ w _ (below_step HB.out (by repeat (first | with_reducible exact Below.refl _ _ | with_reducible apply below_alloc | with_reducible refine below_set ?_ (Nat.le_refl _) | with_reducible apply pw_below_drewN | with_reducible apply below_drew1))) (Kd.R_below F4.out (by repeat (first | with_reducible exact Below.refl _ _ | with_reducible apply below_alloc | with_reducible refine below_set ?_ (Nat.le_refl _) | with_reducible apply pw_below_drewN | with_reducible apply below_drew1))) He_mark_g0.out).mono ?_
  rintro e w12 ⟨rfl, hf_F4, hb, hk⟩
  clear czBK_aT_0 czBK_aT_1 czBK_w0_0 czBK_w0_1 czBK_w0_2 czBK_x0_0 czBK_x0_1 czBK_g0_0 czBK_g0_1 czBK_g0_2
  have HW := Aside0.mk ((Kept.of_below (w := w11) (by repeat (first | with_reducible exact Below.refl _ _ | with_reducible apply below_alloc | with_reducible refine below_set ?_ (Nat.le_refl _) | with_reducible apply pw_below_drewN | with_reducible apply below_drew1)) _).then_ hk (fun _ h_ => .inl h_))
  have HZ12 : Aside0 (w11.heap.size ≤ w12.heap.size) := ⟨HW.out.1⟩
  replace HB := Aside0.mk hb
  replace F1 := Aside0.mk (Kd.R_kept F1.out HW.out (fun k_ h1 h2 => by have z1_ := HZ1.out; have z2_ := HZ2.out; have z3_ := HZ3.out; have z4_ := HZ4.out; have z5_ := HZ5.out; have z6_ := HZ6.out; have z7_ := HZ7.out; have z8_ := HZ8.out; have z9_ := HZ9.out; have z10_ := HZ10.out; have z11_ := HZ11.out; have zg0_ := HG_BK_aT.out; have zg1_ := HG_BK_w0.out; have zg2_ := HG_BK_x0.out; have zg3_ := HG_BK_g0.out; have zl0_ := HLO1.out; have zl1_ := HLO2.out; have zl2_ := HLO3.out; have zl3_ := HLO4.out; have zl4_ := HLO5.out; omega))
  replace F2 := Aside0.mk (Kd.R_kept F2.out HW.out (fun k_ h1 h2 => by have z1_ := HZ1.out; have z2_ := HZ2.out; have z3_ := HZ3.out; have z4_ := HZ4.out; have z5_ := HZ5.out; have z6_ := HZ6.out; have z7_ := HZ7.out; have z8_ := HZ8.out; have z9_ := HZ9.out; have z10_ := HZ10.out; have z11_ := HZ11.out; have zg0_ := HG_BK_aT.out; have zg1_ := HG_BK_w0.out; have zg2_ := HG_BK_x0.out; have zg3_ := HG_BK_g0.out; have zl0_ := HLO1.out; have zl1_ := HLO2.out; have zl2_ := HLO3.out; have zl3_ := HLO4.out; have zl4_ := HLO5.out; omega))
  replace F3 := Aside0.mk (Kd.R_kept F3.out HW.out (fun k_ h1 h2 => by have z1_ := HZ1.out; have z2_ := HZ2.out; have z3_ := HZ3.out; have z4_ := HZ4.out; have z5_ := HZ5.out; have z6_ := HZ6.out; have z7_ := HZ7.out; have z8_ := HZ8.out; have z9_ := HZ9.out; have z10_ := HZ10.out; have z11_ := HZ11.out; have zg0_ := HG_BK_aT.out; have zg1_ := HG_BK_w0.out; have zg2_ := HG_BK_x0.out; have zg3_ := HG_BK_g0.out; have zl0_ := HLO1.out; have zl1_ := HLO2.out; have zl2_ := HLO3.out; have zl3_ := HLO4.out; have zl4_ := HLO5.out; omega))
  replace BK_aT := Aside0.mk (blk_kept BK_aT.out HW.out (fun h2 => by have z1_ := HZ1.out; have z2_ := HZ2.out; have z3_ := HZ3.out; have z4_ := HZ4.out; have z5_ := HZ5.out; have z6_ := HZ6.out; have z7_ := HZ7.out; have z8_ := HZ8.out; have z9_ := HZ9.out; have z10_ := HZ10.out; have z11_ := HZ11.out; have zg0_ := HG_BK_aT.out; have zg1_ := HG_BK_w0.out; have zg2_ := HG_BK_x0.out; have zg3_ := HG_BK_g0.out; have zl0_ := HLO1.out; have zl1_ := HLO2.out; have zl2_ := HLO3.out; have zl3_ := HLO4.out; have zl4_ := HLO5.out; omega))
  replace BK_w0 := Aside0.mk (blk_kept BK_w0.out HW.out (fun h2 => by have z1_ := HZ1.out; have z2_ := HZ2.out; have z3_ := HZ3.out; have z4_ := HZ4.out; have z5_ := HZ5.out; have z6_ := HZ6.out; have z7_ := HZ7.out; have z8_ := HZ8.out; have z9_ := HZ9.out; have z10_ := HZ10.out; have z11_ := HZ11.out; have zg0_ := HG_BK_aT.out; have zg1_ := HG_BK_w0.out; have zg2_ := HG_BK_x0.out; have zg3_ := HG_BK_g0.out; have zl0_ := HLO1.out; have zl1_ := HLO2.out; have zl2_ := HLO3.out; have zl3_ := HLO4.out; have zl4_ := HLO5.out; omega))
  replace BK_x0 := Aside0.mk (blk_kept BK_x0.out HW.out (fun h2 => by have z1_ := HZ1.out; have z2_ := HZ2.out; have z3_ := HZ3.out; have z4_ := HZ4.out; have z5_ := HZ5.out; have z6_ := HZ6.out; have z7_ := HZ7.out; have z8_ := HZ8.out; have z9_ := HZ9.out; have z10_ := HZ10.out; have z11_ := HZ11.out; have zg0_ := HG_BK_aT.out; have zg1_ := HG_BK_w0.out; have zg2_ := HG_BK_x0.out; have zg3_ := HG_BK_g0.out; have zl0_ := HLO1.out; have zl1_ := HLO2.out; have zl2_ := HLO3.out; have zl3_ := HLO4.out; have zl4_ := HLO5.out; omega))
  replace BK_g0 := Aside0.mk (blk_kept BK_g0.out HW.out (fun h2 => by have z1_ := HZ1.out; have z2_ := HZ2.out; have z3_ := HZ3.out; have z4_ := HZ4.out; have z5_ := HZ5.out; have z6_ := HZ6.out; have z7_ := HZ7.out; have z8_ := HZ8.out; have z9_ := HZ9.out; have z10_ := HZ10.out; have z11_ := HZ11.out; have zg0_ := HG_BK_aT.out; have zg1_ := HG_BK_w0.out; have zg2_ := HG_BK_x0.out; have zg3_ := HG_BK_g0.out; have zl0_ := HLO1.out; have zl1_ := HLO2.out; have zl2_ := HLO3.out; have zl3_ := HLO4.out; have zl4_ := HLO5.out; omega))
  replace F4 := Aside0.mk (Kd.R_reok rfl hf_F4 F4.out.1)
  have HQ := Aside0.mk (Kd.R_reads' F4.out).1
  rw [HQ.out] at F4
  rw [HQ.out] at BK_g0
  clear HQ
  clear hb hk HW hf_F4
  have czBK_aT_0 : w12.cell? ⟨w.heap.size, 0, none⟩ = some (.int .i64 a0_0) := (blk_cell BK_aT.out 0).trans rfl
  have czBK_aT_1 : w12.cell? ⟨w.heap.size, 1, none⟩ = some (.slice A0_1 l0_1.length c0_1) := (blk_cell BK_aT.out 1).trans rfl
  have czBK_w0_0 : w12.cell? ⟨w3.heap.size, 0, none⟩ = some (.int .i64 r0_0) := (blk_cell BK_w0.out 0).trans rfl
  have czBK_w0_1 : w12.cell? ⟨w3.heap.size, 1, none⟩ = some (.int .i64 r0_1) := (blk_cell BK_w0.out 1).trans rfl
  have czBK_w0_2 : w12.cell? ⟨w3.heap.size, 2, none⟩ = some (.slice A2_ r0_2.length c2_) := (blk_cell BK_w0.out 2).trans rfl
  have czBK_x0_0 : w12.cell? ⟨w4.heap.size, 0, none⟩ = some (.int .i64 a0_0) := (blk_cell BK_x0.out 0).trans rfl
  have czBK_x0_1 : w12.cell? ⟨w4.heap.size, 1, none⟩ = some (.slice A3_ nx0_1.length c3_) := (blk_cell BK_x0.out 1).trans rfl
  have czBK_g0_0 : w12.cell? ⟨w5.heap.size, 0, none⟩ = some (.int .i64 r0_0) := (blk_cell BK_g0.out 0).trans rfl
  have czBK_g0_1 : w12.cell? ⟨w5.heap.size, 1, none⟩ = some (.int .i64 r0_1) := (blk_cell BK_g0.out 1).trans rfl
  have czBK_g0_2 : w12.cell? ⟨w5.heap.size, 2, none⟩ = some (.slice A4_ ng0_2.length c4_) := (blk_cell BK_g0.out 2).trans rfl
  go_wp2_with fail
  refine (laws_heldBoard.calls k _ _ _ _ _ _ _ _ (Kd.C_below (Kd.R_reads' F4.out).2.2 (by repeat (first | with_reducible exact Below.refl _ _ | with_reducible apply below_alloc | with_reducible refine below_set ?_ (Nat.le_refl _) | with_reducible apply pw_below_drewN | with_reducible apply below_drew1))) (Kd.R_reads' F4.out).2.1 He_held_g0.out).mono ?_
  rintro e w13 ⟨rfl, hb⟩
  clear czBK_aT_0 czBK_aT_1 czBK_w0_0 czBK_w0_1 czBK_w0_2 czBK_x0_0 czBK_x0_1 czBK_g0_0 czBK_g0_1 czBK_g0_2
  have HW := Aside0.mk (below_step (w := w12) (by repeat (first | with_reducible exact Below.refl _ _ | with_reducible apply below_alloc | with_reducible refine below_set ?_ (Nat.le_refl _) | with_reducible apply pw_below_drewN | with_reducible apply below_drew1)) hb)
  have HZ13 : Aside0 (w12.heap.size ≤ w13.heap.size) := ⟨HW.out.size⟩
  replace HB := Aside0.mk (below_step HB.out HW.out)
  replace F1 := Aside0.mk (Kd.R_below F1.out HW.out)
  replace F2 := Aside0.mk (Kd.R_below F2.out HW.out)
  replace F3 := Aside0.mk (Kd.R_below F3.out HW.out)
  replace F4 := Aside0.mk (Kd.R_below F4.out HW.out)
  replace BK_aT := Aside0.mk (blk_below BK_aT.out HW.out)
  replace BK_w0 := Aside0.mk (blk_below BK_w0.out HW.out)
  replace BK_x0 := Aside0.mk (blk_below BK_x0.out HW.out)
  replace BK_g0 := Aside0.mk (blk_below BK_g0.out HW.out)
  clear hb HW
  have czBK_aT_0 : w13.cell? ⟨w.heap.size, 0, none⟩ = some (.int .i64 a0_0) := (blk_cell BK_aT.out 0).trans rfl
  have czBK_aT_1 : w13.cell? ⟨w.heap.size, 1, none⟩ = some (.slice A0_1 l0_1.length c0_1) := (blk_cell BK_aT.out 1).trans rfl
  have czBK_w0_0 : w13.cell? ⟨w3.heap.size, 0, none⟩ = some (.int .i64 r0_0) := (blk_cell BK_w0.out 0).trans rfl
  have czBK_w0_1 : w13.cell? ⟨w3.heap.size, 1, none⟩ = some (.int .i64 r0_1) := (blk_cell BK_w0.out 1).trans rfl
  have czBK_w0_2 : w13.cell? ⟨w3.heap.size, 2, none⟩ = some (.slice A2_ r0_2.length c2_) := (blk_cell BK_w0.out 2).trans rfl
  have czBK_x0_0 : w13.cell? ⟨w4.heap.size, 0, none⟩ = some (.int .i64 a0_0) := (blk_cell BK_x0.out 0).trans rfl
  have czBK_x0_1 : w13.cell? ⟨w4.heap.size, 1, none⟩ = some (.slice A3_ nx0_1.length c3_) := (blk_cell BK_x0.out 1).trans rfl
  have czBK_g0_0 : w13.cell? ⟨w5.heap.size, 0, none⟩ = some (.int .i64 r0_0) := (blk_cell BK_g0.out 0).trans rfl
  have czBK_g0_1 : w13.cell? ⟨w5.heap.size, 1, none⟩ = some (.int .i64 r0_1) := (blk_cell BK_g0.out 1).trans rfl
  have czBK_g0_2 : w13.cell? ⟨w5.heap.size, 2, none⟩ = some (.slice A4_ ng0_2.length c4_) := (blk_cell BK_g0.out 2).trans rfl
  go_wp2_with fail
  refine (laws_toTable.calls k _ _ _ _ _ _ _ (Kd.C_below HR0_1.out (below_step HB.out (by repeat (first | with_reducible exact Below.refl _ _ | with_reducible apply below_alloc | with_reducible refine below_set ?_ (Nat.le_refl _) | with_reducible apply pw_below_drewN | with_reducible apply below_drew1)))) HC0_1.out He_to_aT.out).mono ?_
  rintro e w14 ⟨vt335_0, rfl, hf6, hb⟩
  clear czBK_aT_0 czBK_aT_1 czBK_w0_0 czBK_w0_1 czBK_w0_2 czBK_x0_0 czBK_x0_1 czBK_g0_0 czBK_g0_1 czBK_g0_2
  have HN := Aside0.mk HB.out.size
  have HW := Aside0.mk (below_step (w := w13) (by repeat (first | with_reducible exact Below.refl _ _ | with_reducible apply below_alloc | with_reducible refine below_set ?_ (Nat.le_refl _) | with_reducible apply pw_below_drewN | with_reducible apply below_drew1)) hb)
  have HZ14 : Aside0 (w13.heap.size ≤ w14.heap.size) := ⟨HW.out.size⟩
  replace HB := Aside0.mk (below_step HB.out HW.out)
  replace F1 := Aside0.mk (Kd.R_below F1.out HW.out)
  replace F2 := Aside0.mk (Kd.R_below F2.out HW.out)
  replace F3 := Aside0.mk (Kd.R_below F3.out HW.out)
  replace F4 := Aside0.mk (Kd.R_below F4.out HW.out)
  replace BK_aT := Aside0.mk (blk_below BK_aT.out HW.out)
  replace BK_w0 := Aside0.mk (blk_below BK_w0.out HW.out)
  replace BK_x0 := Aside0.mk (blk_below BK_x0.out HW.out)
  replace BK_g0 := Aside0.mk (blk_below BK_g0.out HW.out)
  obtain ⟨lo6_, F6, HLO6⟩ := Own.R_iv (wN := w13) rfl hf6 HN.out (by repeat (first | with_reducible exact Below.refl _ _ | with_reducible apply below_alloc | with_reducible refine below_set ?_ (Nat.le_refl _) | with_reducible apply pw_below_drewN | with_reducible apply below_drew1)) hb
  obtain ⟨A6_, c6_, e6_⟩ := Kd.R_slice F6.out
  subst e6_
  clear hb HW HN hf6
  have czBK_aT_0 : w14.cell? ⟨w.heap.size, 0, none⟩ = some (.int .i64 a0_0) := (blk_cell BK_aT.out 0).trans rfl
  have czBK_aT_1 : w14.cell? ⟨w.heap.size, 1, none⟩ = some (.slice A0_1 l0_1.length c0_1) := (blk_cell BK_aT.out 1).trans rfl
  have czBK_w0_0 : w14.cell? ⟨w3.heap.size, 0, none⟩ = some (.int .i64 r0_0) := (blk_cell BK_w0.out 0).trans rfl
  have czBK_w0_1 : w14.cell? ⟨w3.heap.size, 1, none⟩ = some (.int .i64 r0_1) := (blk_cell BK_w0.out 1).trans rfl
  have czBK_w0_2 : w14.cell? ⟨w3.heap.size, 2, none⟩ = some (.slice A2_ r0_2.length c2_) := (blk_cell BK_w0.out 2).trans rfl
  have czBK_x0_0 : w14.cell? ⟨w4.heap.size, 0, none⟩ = some (.int .i64 a0_0) := (blk_cell BK_x0.out 0).trans rfl
  have czBK_x0_1 : w14.cell? ⟨w4.heap.size, 1, none⟩ = some (.slice A3_ nx0_1.length c3_) := (blk_cell BK_x0.out 1).trans rfl
  have czBK_g0_0 : w14.cell? ⟨w5.heap.size, 0, none⟩ = some (.int .i64 r0_0) := (blk_cell BK_g0.out 0).trans rfl
  have czBK_g0_1 : w14.cell? ⟨w5.heap.size, 1, none⟩ = some (.int .i64 r0_1) := (blk_cell BK_g0.out 1).trans rfl
  have czBK_g0_2 : w14.cell? ⟨w5.heap.size, 2, none⟩ = some (.slice A4_ ng0_2.length c4_) := (blk_cell BK_g0.out 2).trans rfl
  go_wp2_with fail
  refine (impl_CompileTable.calls k _ _ _ _ _ _ _ _ _ _ (Kd.C_below (Kd.R_reads' F6.out).2.2 (by repeat (first | with_reducible exact Below.refl _ _ | with_reducible apply below_alloc | with_reducible refine below_set ?_ (Nat.le_refl _) | with_reducible apply pw_below_drewN | with_reducible apply below_drew1))) (Kd.R_reads' F6.out).2.1 He_impl.out).mono ?_
  rintro e w15 ⟨vh0_0, rfl, hf7, hb⟩
  clear czBK_aT_0 czBK_aT_1 czBK_w0_0 czBK_w0_1 czBK_w0_2 czBK_x0_0 czBK_x0_1 czBK_g0_0 czBK_g0_1 czBK_g0_2
  have HN := Aside0.mk HB.out.size
  have HW := Aside0.mk (below_step (w := w14) (by repeat (first | with_reducible exact Below.refl _ _ | with_reducible apply below_alloc | with_reducible refine below_set ?_ (Nat.le_refl _) | with_reducible apply pw_below_drewN | with_reducible apply below_drew1)) hb)
  have HZ15 : Aside0 (w14.heap.size ≤ w15.heap.size) := ⟨HW.out.size⟩
  replace HB := Aside0.mk (below_step HB.out HW.out)
  replace F1 := Aside0.mk (Kd.R_below F1.out HW.out)
  replace F2 := Aside0.mk (Kd.R_below F2.out HW.out)
  replace F3 := Aside0.mk (Kd.R_below F3.out HW.out)
  replace F4 := Aside0.mk (Kd.R_below F4.out HW.out)
  replace F6 := Aside0.mk (Kd.R_below F6.out HW.out)
  replace BK_aT := Aside0.mk (blk_below BK_aT.out HW.out)
  replace BK_w0 := Aside0.mk (blk_below BK_w0.out HW.out)
  replace BK_x0 := Aside0.mk (blk_below BK_x0.out HW.out)
  replace BK_g0 := Aside0.mk (blk_below BK_g0.out HW.out)
  obtain ⟨lo7_, F7, HLO7⟩ := Own.R_iv (wN := w14) rfl hf7 HN.out (by repeat (first | with_reducible exact Below.refl _ _ | with_reducible apply below_alloc | with_reducible refine below_set ?_ (Nat.le_refl _) | with_reducible apply pw_below_drewN | with_reducible apply below_drew1)) hb
  obtain ⟨A7_, c7_, e7_⟩ := Kd.R_slice F7.out
  subst e7_
  clear hb HW HN hf7
  have czBK_aT_0 : (w15.alloc (.cells #[.int .i64 r0_0, .int .i64 r0_1, .slice A7_ s0_2.length c7_] 39)).cell? ⟨w.heap.size, 0, none⟩ = some (.int .i64 a0_0) := (blk_cell (blk_alloc BK_aT.out _) 0).trans rfl
  have czBK_aT_1 : (w15.alloc (.cells #[.int .i64 r0_0, .int .i64 r0_1, .slice A7_ s0_2.length c7_] 39)).cell? ⟨w.heap.size, 1, none⟩ = some (.slice A0_1 l0_1.length c0_1) := (blk_cell (blk_alloc BK_aT.out _) 1).trans rfl
  have czBK_w0_0 : (w15.alloc (.cells #[.int .i64 r0_0, .int .i64 r0_1, .slice A7_ s0_2.length c7_] 39)).cell? ⟨w3.heap.size, 0, none⟩ = some (.int .i64 r0_0) := (blk_cell (blk_alloc BK_w0.out _) 0).trans rfl
  have czBK_w0_1 : (w15.alloc (.cells #[.int .i64 r0_0, .int .i64 r0_1, .slice A7_ s0_2.length c7_] 39)).cell? ⟨w3.heap.size, 1, none⟩ = some (.int .i64 r0_1) := (blk_cell (blk_alloc BK_w0.out _) 1).trans rfl
  have czBK_w0_2 : (w15.alloc (.cells #[.int .i64 r0_0, .int .i64 r0_1, .slice A7_ s0_2.length c7_] 39)).cell? ⟨w3.heap.size, 2, none⟩ = some (.slice A2_ r0_2.length c2_) := (blk_cell (blk_alloc BK_w0.out _) 2).trans rfl
  have czBK_x0_0 : (w15.alloc (.cells #[.int .i64 r0_0, .int .i64 r0_1, .slice A7_ s0_2.length c7_] 39)).cell? ⟨w4.heap.size, 0, none⟩ = some (.int .i64 a0_0) := (blk_cell (blk_alloc BK_x0.out _) 0).trans rfl
  have czBK_x0_1 : (w15.alloc (.cells #[.int .i64 r0_0, .int .i64 r0_1, .slice A7_ s0_2.length c7_] 39)).cell? ⟨w4.heap.size, 1, none⟩ = some (.slice A3_ nx0_1.length c3_) := (blk_cell (blk_alloc BK_x0.out _) 1).trans rfl
  have czBK_g0_0 : (w15.alloc (.cells #[.int .i64 r0_0, .int .i64 r0_1, .slice A7_ s0_2.length c7_] 39)).cell? ⟨w5.heap.size, 0, none⟩ = some (.int .i64 r0_0) := (blk_cell (blk_alloc BK_g0.out _) 0).trans rfl
  have czBK_g0_1 : (w15.alloc (.cells #[.int .i64 r0_0, .int .i64 r0_1, .slice A7_ s0_2.length c7_] 39)).cell? ⟨w5.heap.size, 1, none⟩ = some (.int .i64 r0_1) := (blk_cell (blk_alloc BK_g0.out _) 1).trans rfl
  have czBK_g0_2 : (w15.alloc (.cells #[.int .i64 r0_0, .int .i64 r0_1, .slice A7_ s0_2.length c7_] 39)).cell? ⟨w5.heap.size, 2, none⟩ = some (.slice A4_ ng0_2.length c4_) := (blk_cell (blk_alloc BK_g0.out _) 2).trans rfl
  go_wp2_with fail
  refine (laws_eqBoard.calls k _ _ _ _ _ _ _ _ _ _ _ _ (Kd.C_below (Kd.R_reads' F7.out).2.2 (by repeat (first | with_reducible exact Below.refl _ _ | with_reducible apply below_alloc | with_reducible refine below_set ?_ (Nat.le_refl _) | with_reducible apply pw_below_drewN | with_reducible apply below_drew1))) (Kd.R_reads' F7.out).2.1 (Kd.C_below (Kd.R_reads' F2.out).2.2 (by repeat (first | with_reducible exact Below.refl _ _ | with_reducible apply below_alloc | with_reducible refine below_set ?_ (Nat.le_refl _) | with_reducible apply pw_below_drewN | with_reducible apply below_drew1))) (Kd.R_reads' F2.out).2.1 He_eq_w0.out).mono ?_
  rintro e w16 ⟨rfl, hb⟩
  clear czBK_aT_0 czBK_aT_1 czBK_w0_0 czBK_w0_1 czBK_w0_2 czBK_x0_0 czBK_x0_1 czBK_g0_0 czBK_g0_1 czBK_g0_2
  have BK_h0 := Aside0.mk (blk_below (g := w15.heap.size) (o := .cells #[.int .i64 r0_0, .int .i64 r0_1, .slice A7_ s0_2.length c7_] 39 (0, 0)) (by (repeat (first | with_reducible refine blk_drewN ?_ _ | with_reducible refine blk_drew ?_)); exact (blk_new _ _)) hb)
  have HG_BK_h0 : Aside0 (w15.heap.size < w16.heap.size) := ⟨blk_lt BK_h0.out⟩
  have HW := Aside0.mk (below_step (w := w15) (by repeat (first | with_reducible exact Below.refl _ _ | with_reducible apply below_alloc | with_reducible refine below_set ?_ (Nat.le_refl _) | with_reducible apply pw_below_drewN | with_reducible apply below_drew1)) hb)
  have HZ16 : Aside0 (w15.heap.size ≤ w16.heap.size) := ⟨HW.out.size⟩
  replace HB := Aside0.mk (below_step HB.out HW.out)
  replace F1 := Aside0.mk (Kd.R_below F1.out HW.out)
  replace F2 := Aside0.mk (Kd.R_below F2.out HW.out)
  replace F3 := Aside0.mk (Kd.R_below F3.out HW.out)
  replace F4 := Aside0.mk (Kd.R_below F4.out HW.out)
  replace F6 := Aside0.mk (Kd.R_below F6.out HW.out)
  replace F7 := Aside0.mk (Kd.R_below F7.out HW.out)
  replace BK_aT := Aside0.mk (blk_below BK_aT.out HW.out)
  replace BK_w0 := Aside0.mk (blk_below BK_w0.out HW.out)
  replace BK_x0 := Aside0.mk (blk_below BK_x0.out HW.out)
  replace BK_g0 := Aside0.mk (blk_below BK_g0.out HW.out)
  clear hb HW
  have czBK_aT_0 : w16.cell? ⟨w.heap.size, 0, none⟩ = some (.int .i64 a0_0) := (blk_cell BK_aT.out 0).trans rfl
  have czBK_aT_1 : w16.cell? ⟨w.heap.size, 1, none⟩ = some (.slice A0_1 l0_1.length c0_1) := (blk_cell BK_aT.out 1).trans rfl
  have czBK_w0_0 : w16.cell? ⟨w3.heap.size, 0, none⟩ = some (.int .i64 r0_0) := (blk_cell BK_w0.out 0).trans rfl
  have czBK_w0_1 : w16.cell? ⟨w3.heap.size, 1, none⟩ = some (.int .i64 r0_1) := (blk_cell BK_w0.out 1).trans rfl
  have czBK_w0_2 : w16.cell? ⟨w3.heap.size, 2, none⟩ = some (.slice A2_ r0_2.length c2_) := (blk_cell BK_w0.out 2).trans rfl
  have czBK_x0_0 : w16.cell? ⟨w4.heap.size, 0, none⟩ = some (.int .i64 a0_0) := (blk_cell BK_x0.out 0).trans rfl
  have czBK_x0_1 : w16.cell? ⟨w4.heap.size, 1, none⟩ = some (.slice A3_ nx0_1.length c3_) := (blk_cell BK_x0.out 1).trans rfl
  have czBK_g0_0 : w16.cell? ⟨w5.heap.size, 0, none⟩ = some (.int .i64 r0_0) := (blk_cell BK_g0.out 0).trans rfl
  have czBK_g0_1 : w16.cell? ⟨w5.heap.size, 1, none⟩ = some (.int .i64 r0_1) := (blk_cell BK_g0.out 1).trans rfl
  have czBK_g0_2 : w16.cell? ⟨w5.heap.size, 2, none⟩ = some (.slice A4_ ng0_2.length c4_) := (blk_cell BK_g0.out 2).trans rfl
  have czBK_h0_0 : w16.cell? ⟨w15.heap.size, 0, none⟩ = some (.int .i64 r0_0) := (blk_cell BK_h0.out 0).trans rfl
  have czBK_h0_1 : w16.cell? ⟨w15.heap.size, 1, none⟩ = some (.int .i64 r0_1) := (blk_cell BK_h0.out 1).trans rfl
  have czBK_h0_2 : w16.cell? ⟨w15.heap.size, 2, none⟩ = some (.slice A7_ s0_2.length c7_) := (blk_cell BK_h0.out 2).trans rfl
  go_wp2_with fail
  refine (laws_heldBoard.calls k _ _ _ _ _ _ _ _ (Kd.C_below (Kd.R_reads' F4.out).2.2 (by repeat (first | with_reducible exact Below.refl _ _ | with_reducible apply below_alloc | with_reducible refine below_set ?_ (Nat.le_refl _) | with_reducible apply pw_below_drewN | with_reducible apply below_drew1))) (Kd.R_reads' F4.out).2.1 He_held_g0.out).mono ?_
  rintro e w17 ⟨rfl, hb⟩
  clear czBK_aT_0 czBK_aT_1 czBK_w0_0 czBK_w0_1 czBK_w0_2 czBK_x0_0 czBK_x0_1 czBK_g0_0 czBK_g0_1 czBK_g0_2 czBK_h0_0 czBK_h0_1 czBK_h0_2
  have HW := Aside0.mk (below_step (w := w16) (by repeat (first | with_reducible exact Below.refl _ _ | with_reducible apply below_alloc | with_reducible refine below_set ?_ (Nat.le_refl _) | with_reducible apply pw_below_drewN | with_reducible apply below_drew1)) hb)
  have HZ17 : Aside0 (w16.heap.size ≤ w17.heap.size) := ⟨HW.out.size⟩
  replace HB := Aside0.mk (below_step HB.out HW.out)
  replace F1 := Aside0.mk (Kd.R_below F1.out HW.out)
  replace F2 := Aside0.mk (Kd.R_below F2.out HW.out)
  replace F3 := Aside0.mk (Kd.R_below F3.out HW.out)
  replace F4 := Aside0.mk (Kd.R_below F4.out HW.out)
  replace F6 := Aside0.mk (Kd.R_below F6.out HW.out)
  replace F7 := Aside0.mk (Kd.R_below F7.out HW.out)
  replace BK_aT := Aside0.mk (blk_below BK_aT.out HW.out)
  replace BK_w0 := Aside0.mk (blk_below BK_w0.out HW.out)
  replace BK_x0 := Aside0.mk (blk_below BK_x0.out HW.out)
  replace BK_g0 := Aside0.mk (blk_below BK_g0.out HW.out)
  replace BK_h0 := Aside0.mk (blk_below BK_h0.out HW.out)
  clear hb HW
  have czBK_aT_0 : w17.cell? ⟨w.heap.size, 0, none⟩ = some (.int .i64 a0_0) := (blk_cell BK_aT.out 0).trans rfl
  have czBK_aT_1 : w17.cell? ⟨w.heap.size, 1, none⟩ = some (.slice A0_1 l0_1.length c0_1) := (blk_cell BK_aT.out 1).trans rfl
  have czBK_w0_0 : w17.cell? ⟨w3.heap.size, 0, none⟩ = some (.int .i64 r0_0) := (blk_cell BK_w0.out 0).trans rfl
  have czBK_w0_1 : w17.cell? ⟨w3.heap.size, 1, none⟩ = some (.int .i64 r0_1) := (blk_cell BK_w0.out 1).trans rfl
  have czBK_w0_2 : w17.cell? ⟨w3.heap.size, 2, none⟩ = some (.slice A2_ r0_2.length c2_) := (blk_cell BK_w0.out 2).trans rfl
  have czBK_x0_0 : w17.cell? ⟨w4.heap.size, 0, none⟩ = some (.int .i64 a0_0) := (blk_cell BK_x0.out 0).trans rfl
  have czBK_x0_1 : w17.cell? ⟨w4.heap.size, 1, none⟩ = some (.slice A3_ nx0_1.length c3_) := (blk_cell BK_x0.out 1).trans rfl
  have czBK_g0_0 : w17.cell? ⟨w5.heap.size, 0, none⟩ = some (.int .i64 r0_0) := (blk_cell BK_g0.out 0).trans rfl
  have czBK_g0_1 : w17.cell? ⟨w5.heap.size, 1, none⟩ = some (.int .i64 r0_1) := (blk_cell BK_g0.out 1).trans rfl
  have czBK_g0_2 : w17.cell? ⟨w5.heap.size, 2, none⟩ = some (.slice A4_ ng0_2.length c4_) := (blk_cell BK_g0.out 2).trans rfl
  have czBK_h0_0 : w17.cell? ⟨w15.heap.size, 0, none⟩ = some (.int .i64 r0_0) := (blk_cell BK_h0.out 0).trans rfl
  have czBK_h0_1 : w17.cell? ⟨w15.heap.size, 1, none⟩ = some (.int .i64 r0_1) := (blk_cell BK_h0.out 1).trans rfl
  have czBK_h0_2 : w17.cell? ⟨w15.heap.size, 2, none⟩ = some (.slice A7_ s0_2.length c7_) := (blk_cell BK_h0.out 2).trans rfl
  go_wp2_with fail
  go_ret
  exact ⟨rfl, below_step HB.out (by repeat (first | with_reducible exact Below.refl _ _ | with_reducible apply below_alloc | with_reducible refine below_set ?_ (Nat.le_refl _) | with_reducible apply pw_below_drewN | with_reducible apply below_drew1))⟩
end Go.Proofs.Ytnccomklpfbcpaa.P
end

section
/- What the printed functions that set the flips of a counting board come to. -/
namespace Go.Proofs.Ytnccomklpfbcpaa.A
open Go.RowKit Go.Proofs.YtnccomklpfbcpaaW.PrintWords Go.Proofs.YtnccomklpfbcpaaW.PrintLast Go.Proofs.YtnccomklpfbcpaaW.PrintMore Go.Proofs.Ytnccomklpfbcpaa.P Go.Proofs.Ytnccomklpfbcpaa.T
set_option linter.unusedVariables false
set_option linter.unusedSimpArgs false

/-- The cells from place i on, each flip with the state that its row's input says. -/
def setGo (c : Int) (xs : List Int) : Int → List S72 → List S72
  | _, [] => []
  | i, y :: l => (if y.f0 = 3 then ⟨y.f0, rd xs (i / c)⟩ else y) :: setGo c xs (i + 1) l
theorem setGo_length (c : Int) (xs : List Int) : ∀ (l : List S72) (i : Int), (setGo c xs i l).length = l.length := by
  intro l
  induction l with
  | nil => intro i; rfl
  | cons y l ih => intro i; simp [setGo, ih]
theorem div_row {i c n : Int} (h0 : 0 ≤ i) (hc : 1 ≤ c) (h : i < n * c) (hn : n ≤ 100) : wrap64 (Int.tdiv i c) = i / c ∧ 0 ≤ i / c ∧ i / c < n := by
  have h1 : 0 ≤ i / c := Int.ediv_nonneg h0 (by omega)
  have h2 : i / c < n := Int.ediv_lt_of_lt_mul (by omega) h
  rw [Int.tdiv_eq_ediv_of_nonneg h0, wrap_id (by omega) (by omega)]
  exact ⟨rfl, h1, h2⟩
def SetOk (r c : Int) (l : List S72) (xs : List Int) : Prop := BoOk r c l ∧ (1 ≤ (xs.length : Int) ∧ (xs.length : Int) ≤ 4) ∧ (∀ x ∈ xs, 0 ≤ x ∧ x ≤ 1) ∧ r = xs.length ∧ c = 2 * (xs.length : Int) + 1
instance (r c : Int) (l : List S72) (xs : List Int) : Decidable (SetOk r c l xs) := by unfold SetOk; infer_instance
def setB (r c : Int) (l : List S72) (xs : List Int) : Int × Int × List S72 × Bool := if SetOk r c l xs then (r, c, setGo c xs 0 l, true) else (0, 0, [], false)
theorem setB_len (r c : Int) (l : List S72) (xs : List Int) : (setB r c l xs).2.2.1.length ≤ 90 := by
  unfold setB
  split
  · rename_i h; rw [setGo_length]; exact h.1.len
  · simp
theorem cbSet_loop {r c : Int} (xs : List Int) (l : List S72) (hc : 1 ≤ c) (hn : xs.length ≤ 10) (hl : (l.length : Int) = xs.length * c) (hm : l.length ≤ 90) : ∀ (suf pre done : List S72), l = pre ++ suf → done.length = pre.length →
    Ev (fun k => spec_cbSet.l0 k xs l (l.length : Int) (pre.length : Int) r c l r c (done ++ suf)) (r, c, done ++ setGo c xs pre.length suf) := by
  intro suf
  induction suf with
  | nil =>
    intro pre done h1 h2
    subst h1
    exact Ev.step (fun k => spec_cbSet.l0.eq_2 ..) (ev_neg (by simp) (ev_const (by simp [setGo])))
  | cons y suf ih =>
    intro pre done h1 h2
    subst h1
    have hlt := lt_mid pre y suf
    obtain ⟨d1, d2, d3⟩ := div_row (i := (pre.length : Int)) (by omega) hc (hl ▸ hlt) (by omega)
    refine Ev.step (fun k => spec_cbSet.l0.eq_2 ..) (ev_pos hlt (ev_pos (by omega) (ev_pos hlt ?_)))
    rw [rdc_mid]
    have hnx := next_mid pre y suf (by simp only [maxLen]; omega)
    have hrd : rd_T72 (done ++ y :: suf) (pre.length : Int) = y := by rw [← h2]; exact rdc_mid done y suf
    by_cases h3 : y.f0 = 3
    · refine ev_pos h3 (ev_neg (by omega) (ev_pos (by rw [d1]; exact d2) (ev_pos (by rw [d1]; exact d3) (ev_pos (by rw [← h2]; exact lt_mid _ _ _) ?_))))
      rw [hrd, d1, hnx]
      have := ih (pre ++ [y]) (done ++ [⟨y.f0, rd xs (pre.length / c)⟩]) (assoc_mid _ _ _) (by simp [h2])
      rw [show (done ++ y :: suf).set ((pre.length : Int)).toNat ⟨y.f0, rd xs (pre.length / c)⟩ = (done ++ [⟨y.f0, rd xs (pre.length / c)⟩]) ++ suf by rw [← h2]; exact set_mid _ _ _ _]
      simpa [setGo, h3] using this
    · refine ev_neg h3 ?_
      rw [hnx]
      have := ih (pre ++ [y]) (done ++ [y]) (assoc_mid _ _ _) (by simp [h2])
      simpa [setGo, h3] using this
theorem cbSet {r c : Int} (xs : List Int) (l : List S72) (hc : 1 ≤ c) (hn : xs.length ≤ 10) (hl : (l.length : Int) = xs.length * c) (hm : l.length ≤ 90) : Ev (fun k => spec_cbSet.f k r c l xs) (r, c, setGo c xs 0 l) := by
  unfold spec_cbSet.f
  refine ev_bindc (a := (r, c, l)) ?_ (cbSet_loop (r := r) xs l hc hn hl hm l [] [] rfl rfl)
  unfold spec_boOwn.f
  rw [Option.bind_some, if_pos (by simp; omega)]; rfl
theorem areBits_loop (l : List Int) (hm : l.length ≤ maxLen) : ∀ (suf pre : List Int), l = pre ++ suf →
    Ev (fun k => impl_areBits.l0 k l (l.length : Int) (pre.length : Int)) (decide (∀ x ∈ suf, 0 ≤ x ∧ x ≤ 1)) := by
  intro suf
  induction suf with
  | nil =>
    intro pre h1
    subst h1
    exact Ev.step (fun k => impl_areBits.l0.eq_2 ..) (ev_neg (by simp) (ev_const (by simp)))
  | cons y suf ih =>
    intro pre h1
    subst h1
    have hlt := lt_mid pre y suf
    have hrest := ih (pre ++ [y]) (assoc_mid _ _ _)
    refine Ev.step (fun k => impl_areBits.l0.eq_2 ..) (ev_pos hlt (ev_pos (by omega) (ev_pos hlt ?_)))
    rw [rd_mid, next_mid pre y suf hm]
    by_cases h0 : y = 0
    · refine ev_pos h0 ?_
      rw [show decide (∀ x ∈ y :: suf, 0 ≤ x ∧ x ≤ 1) = decide (∀ x ∈ suf, 0 ≤ x ∧ x ≤ 1) by simp [h0]]
      exact hrest
    refine ev_neg h0 ?_
    by_cases h1 : y = 1
    · refine ev_pos h1 ?_
      rw [show decide (∀ x ∈ y :: suf, 0 ≤ x ∧ x ≤ 1) = decide (∀ x ∈ suf, 0 ≤ x ∧ x ≤ 1) by simp [h1]]
      exact hrest
    refine ev_neg h1 (ev_const ?_)
    rw [decide_eq_false]
    intro h
    have := h y List.mem_cons_self
    omega
theorem areBits (l : List Int) (hm : l.length ≤ maxLen) : Ev (fun k => impl_areBits.f k l) (decide (∀ x ∈ l, 0 ≤ x ∧ x ≤ 1)) := by
  unfold impl_areBits.f
  exact areBits_loop l hm l [] rfl
end Go.Proofs.Ytnccomklpfbcpaa.A
end

section
/- Tables: the guard, the copy, the marks, whether a table is good (both programs), and what the sorting board of a good one is. -/
namespace Go.Proofs.Ytnccomklpfbcpaa.A
open Go.RowKit Go.Proofs.YtnccomklpfbcpaaW.PrintWords Go.Proofs.YtnccomklpfbcpaaW.PrintLast Go.Proofs.YtnccomklpfbcpaaW.PrintMore Go.Proofs.Ytnccomklpfbcpaa.P Go.Proofs.Ytnccomklpfbcpaa.T
set_option linter.unusedVariables false
set_option linter.unusedSimpArgs false
theorem szTab (a : Int) (l : List Int) (h : l.length ≤ maxLen) : ∃ s, laws_szTable.f a l 1048576 = some s ∧ (0 ≤ s → l.length ≤ 1048576) := by
  refine ⟨if (1048576 : Int) - (l.length : Int) < 0 then -1 else 1048576 - (l.length : Int), ?_, ?_⟩
  · unfold laws_szTable.f
    rw [szInts l 1048576 (by omega) h]
    by_cases h1 : (1048576 : Int) - (l.length : Int) < 0
    · rw [if_pos h1]; rfl
    · rw [if_neg h1]
      show (if (1048576 : Int) - (l.length : Int) < 0 then some (-1) else some (1048576 - (l.length : Int))) = _
      rw [if_neg h1]
  · intro h1
    by_cases h2 : (1048576 : Int) - (l.length : Int) < 0
    · rw [if_pos h2] at h1; omega
    · omega
theorem toTab (a : Int) (l : List Int) (h : l.length ≤ 1048576) : Ev (fun k => laws_toTable.f k a l) (a, l) := by
  unfold laws_toTable.f
  exact ev_bind (toInts l h) (ev_const rfl)
theorem eqTab (a : Int) (l : List Int) (h : l.length ≤ maxLen) : Ev (fun k => laws_eqTable.f k a l a l) true := by
  unfold laws_eqTable.f
  exact ev_pos rfl (ev_bind (eqInts l h) (ev_pos rfl (ev_const rfl)))
theorem markTab (a : Int) (l : List Int) (h : l.length ≤ 1048576) : Ev (fun k => laws_markTable.f k a l 1) (1 + (l.length : Int), iota 1 l.length) := by
  unfold laws_markTable.f
  exact ev_bind (markInts l 1 (by simp only [maxLen]; omega) (by omega) (by omega)) (ev_const rfl)
/-- A table is good. -/
def TabOk (a : Int) (l : List Int) : Prop := (0 ≤ a ∧ a ≤ 4) ∧ l.length = 2 ^ a.toNat ∧ ∀ x ∈ l, 0 ≤ x ∧ x ≤ 1
instance (a : Int) (l : List Int) : Decidable (TabOk a l) := by unfold TabOk; infer_instance
theorem shlT : ∀ i : Fin 5, shl .i64 1 ((i.val : Nat) : Int) = ((2 ^ i.val : Nat) : Int) := by decide
theorem u64T : ∀ i : Fin 5, IntKind.u64.wrap ((i.val : Nat) : Int) = ((i.val : Nat) : Int) := by decide
theorem ttGood (a : Int) (l : List Int) (hm : l.length ≤ maxLen) : Ev (fun k => spec_ttGood.f k a l) (decide (TabOk a l)) := by
  unfold spec_ttGood.f
  refine ev_bindc (a := decide (0 ≤ a ∧ a ≤ 4)) (by unfold spec_ttInputs.f; rw [in_f]; rfl) ?_
  by_cases h : 0 ≤ a ∧ a ≤ 4
  · obtain ⟨i, rfl⟩ : ∃ i : Fin 5, a = ((i.val : Nat) : Int) := ⟨⟨a.toNat, by omega⟩, by simp; omega⟩
    rw [decide_eq_true h]
    refine ev_pos rfl ?_
    simp only [u64T, shlT]
    refine ev_pos (by omega) ?_
    by_cases h2 : l.length = 2 ^ i.val
    · refine ev_pos (by rw [h2]) (ev_bind (l1All l 0 1 hm) (ev_const ?_))
      congr 1
      simp [TabOk, h, h2]
      try (intro _; omega)
    · refine ev_neg (by omega) (ev_const ?_)
      congr 1
      simp [TabOk, h2]
  · rw [decide_eq_false h]
    exact ev_neg (by decide) (ev_const (by simp only [TabOk, h, false_and, decide_false]))
theorem cbSmall (a : Int) (l : List Int) (hm : l.length ≤ maxLen) : Ev (fun k => spec_cbSmall.f k a l) (decide (TabOk a l ∧ a ≤ 3)) := by
  unfold spec_cbSmall.f
  refine ev_bind (ttGood a l hm) ?_
  by_cases h : TabOk a l
  · exact ev_pos (by simpa using h) (ev_const (by simp [h]))
  · exact ev_neg (by simpa using h) (ev_const (by simp [h]))
theorem isTable (a : Int) (l : List Int) (hm : l.length ≤ maxLen) : Ev (fun k => impl_IsTable.f k a l) (decide (TabOk a l)) := by
  unfold impl_IsTable.f
  by_cases h : 0 ≤ a ∧ a ≤ 4
  · refine ev_pos h.1 (ev_pos h.2 (ev_pos h.1 ?_))
    obtain ⟨i, rfl⟩ : ∃ i : Fin 5, a = ((i.val : Nat) : Int) := ⟨⟨a.toNat, by omega⟩, by simp; omega⟩
    simp only [shlT]
    by_cases h2 : l.length = 2 ^ i.val
    · refine ev_pos (by rw [h2]) (ev_bind (areBits l hm) (ev_const ?_))
      congr 1
      simp [TabOk, h, h2]
      try (intro _; omega)
    · refine ev_neg (by omega) (ev_const ?_)
      congr 1
      simp [TabOk, h2]
  · have hf : decide (TabOk a l) = false := decide_eq_false (fun h_ => h h_.1)
    rw [hf]
    by_cases h1 : a ≥ 0
    · exact ev_pos h1 (ev_neg (by omega) (ev_const rfl))
    · exact ev_neg h1 (ev_const rfl)
theorem TabOk.sb {a : Int} {l : List Int} (h : TabOk a l) (h3 : a ≤ 3) : SbOk l := by
  obtain ⟨⟨h0, h4⟩, hl, hb⟩ := h
  have hbit : ∀ y ∈ l, y = 0 ∨ y = 1 := fun y hy => by have := hb y hy; omega
  have hc : a = 0 ∨ a = 1 ∨ a = 2 ∨ a = 3 := by omega
  have hn : l.length = 1 ∨ l.length = 2 ∨ l.length = 4 ∨ l.length = 8 := by
    rcases hc with rfl | rfl | rfl | rfl <;> simp at hl <;> omega
  exact ⟨⟨by omega, by omega⟩, hbit, within_ok l hn hbit⟩
theorem roundsL_len : ∀ (d r : Nat) (v e : List Int) (cs : List S72), (roundsL d r v e cs).2.2.2.length ≤ cs.length + d * v.length ∧ (roundsL d r v e cs).2.2.1.length = e.length := by
  intro d
  induction d with
  | zero => intro r v e cs; simp [roundsL]
  | succ d ih =>
    intro r v e cs
    have hp := passL_len v.length (r % 2) v e (List.replicate v.length ⟨0, 0⟩)
    simp only [roundsL]
    by_cases h1 : srtL (passL v.length (r % 2) v e (List.replicate v.length ⟨0, 0⟩)).1 = true
    · rw [if_pos h1]
      refine ⟨?_, hp.2.1⟩
      rw [List.length_append, hp.2.2, List.length_replicate, Nat.succ_mul]
      have := Nat.zero_le (d * v.length)
      omega
    · rw [if_neg h1]
      have h2 := ih (r + 1) (passL v.length (r % 2) v e (List.replicate v.length ⟨0, 0⟩)).1 (passL v.length (r % 2) v e (List.replicate v.length ⟨0, 0⟩)).2.1 (cs ++ (passL v.length (r % 2) v e (List.replicate v.length ⟨0, 0⟩)).2.2)
      rw [hp.1, List.length_append, hp.2.2, List.length_replicate, hp.2.1] at h2
      rw [Nat.succ_mul]
      exact ⟨by omega, h2.2⟩
theorem SbOk.len {l : List Int} (h : SbOk l) : (sbQ l).2.2.2.length ≤ 72 ∧ (sbQ l).2.2.1.length ≤ 8 := by
  have h1 := roundsL_len 9 0 l (iota 0 l.length) []
  have h2 := h.1.2
  rw [iota_length] at h1
  simp only [List.length_nil] at h1
  unfold sbQ
  omega
end Go.Proofs.Ytnccomklpfbcpaa.A
end

section
/- FnExactCompileTable: the program's CompileTable returns what the reference's returns, for all tables that are not greater than 2^20 numbers (as the law's own guard says). -/
namespace Go.Proofs.Ytnccomklpfbcpaa.A
open Go.RowKit Go.Proofs.YtnccomklpfbcpaaW.PrintWords Go.Proofs.YtnccomklpfbcpaaW.PrintLast Go.Proofs.YtnccomklpfbcpaaW.PrintMore Go.Proofs.Ytnccomklpfbcpaa.P Go.Proofs.Ytnccomklpfbcpaa.T
set_option linter.unusedVariables false
set_option linter.unusedSimpArgs false
def resCompileTable (a : Int) (l : List Int) : Int × Int × List S72 × Int × Bool := if TabOk a l ∧ a ≤ 3 then (((sbQ l).1 : Int), (l.length : Int), (sbQ l).2.2.2, zerosL l, true) else (0, 0, [], 0, false)
theorem ttOnes_loop (l : List Int) (hm9 : l.length ≤ 1000) (hb : ∀ x ∈ l, 0 ≤ x ∧ x ≤ 1) : ∀ (suf pre acc : List Int), l = pre ++ suf → acc.length ≤ pre.length →
    ∃ r, Ev (fun k => spec_ttOnes.l0 k acc l (l.length : Int) (pre.length : Int)) r ∧ (r.length : Int) + zerosL suf = (acc.length : Int) + suf.length := by
  intro suf
  induction suf with
  | nil =>
    intro pre acc hl ha
    subst hl
    exact ⟨acc, Ev.step (fun k => spec_ttOnes.l0.eq_2 ..) (ev_neg (not_lt_end _) (ev_const rfl)), by simp [zerosL]⟩
  | cons y suf ih =>
    intro pre acc hl ha
    subst hl
    have hy := hb y (by simp)
    have hm : (pre ++ y :: suf).length ≤ maxLen := by simp only [maxLen]; omega
    have hm2 := hm9
    simp only [List.length_append, List.length_cons] at hm2
    by_cases h : y = 1
    · obtain ⟨r, h1, h2⟩ := ih (pre ++ [y]) (acc ++ [(pre.length : Int)]) (assoc_mid _ _ _) (by simp; omega)
      refine ⟨r, Ev.step (fun k => spec_ttOnes.l0.eq_2 ..) (ev_pos (lt_mid _ _ _) (ev_pos (by omega) (ev_pos (lt_mid _ _ _) ?_))), ?_⟩
      · rw [rd_mid, next_mid _ _ _ hm]
        exact ev_pos h (ev_pos (by omega) h1)
      · subst h
        simp only [zerosL, List.length_cons, List.length_append, List.length_nil] at h2 ⊢
        omega
    · obtain ⟨r, h1, h2⟩ := ih (pre ++ [y]) acc (assoc_mid _ _ _) (by simp; omega)
      refine ⟨r, Ev.step (fun k => spec_ttOnes.l0.eq_2 ..) (ev_pos (lt_mid _ _ _) (ev_pos (by omega) (ev_pos (lt_mid _ _ _) ?_))), ?_⟩
      · rw [rd_mid, next_mid _ _ _ hm]
        exact ev_neg h h1
      · have h0 : y = 0 := by omega
        subst h0
        simp only [zerosL, List.length_cons] at h2 ⊢
        omega
theorem cbSplit (a : Int) (l : List Int) (hm : l.length ≤ 1000) (hb : ∀ x ∈ l, 0 ≤ x ∧ x ≤ 1) : Ev (fun k => spec_cbSplit.f k a l) (zerosL l) := by
  unfold spec_cbSplit.f spec_ttOnes.f
  obtain ⟨r, h1, h2⟩ := ttOnes_loop l hm hb l [] [] rfl (Nat.le_refl _)
  simp only [List.length_nil] at h1 h2
  have h3 := zerosL_bd l (fun x hx => by have := hb x hx; omega)
  refine ev_bind h1 (ev_const ?_)
  rw [wrap_id (by omega) (by omega)]
  congr 1
  omega
theorem specCompileTable (a : Int) (l : List Int) (hm : l.length ≤ maxLen) : Ev (fun k => spec_CompileTable.f k a l) (resCompileTable a l) := by
  unfold spec_CompileTable.f resCompileTable
  refine ev_bind (cbSmall a l hm) ?_
  by_cases h : TabOk a l ∧ a ≤ 3
  case neg =>
    rw [if_neg h]
    exact ev_neg (by simpa using h) (ev_const rfl)
  have hs := h.1.sb h.2
  rw [if_pos h]
  refine ev_pos (by simpa using h) ?_
  unfold spec_cbBoard.f
  have h8 := hs.1.2
  exact ev_bind (ev_const (if_pos hs)) (ev_bind (cbSplit a l (by omega) h.1.2.2) (ev_const rfl))
theorem implCompileTable (a : Int) (l : List Int) (hm : l.length ≤ maxLen) : Ev (fun k => impl_CompileTable.f k a l) (resCompileTable a l) := by
  unfold impl_CompileTable.f resCompileTable
  refine ev_bind (isTable a l hm) ?_
  by_cases h : TabOk a l ∧ a ≤ 3
  case neg =>
    rw [if_neg h]
    by_cases h1 : TabOk a l
    · refine ev_pos (by simpa using h1) (ev_pos ?_ (ev_const rfl))
      have h2 : ¬ a ≤ 3 := fun h_ => h ⟨h1, h_⟩
      omega
    · exact ev_neg (by simpa using h1) (ev_const rfl)
  have hs := h.1.sb h.2
  have h3 : ¬ a > 3 := by have := h.2; omega
  rw [if_pos h]
  refine ev_pos (by simpa using h.1) (ev_neg h3 ?_)
  unfold impl_sortingBoard.f
  exact ev_bind (ev_const (if_pos hs)) (ev_const rfl)
theorem lawFnExactCompileTable (a0_0 : Int) (A0_1 : Option Addr) (c0_1 : Nat) (l0_1 : List Int) (w : World) (h1 : Kd.C (Kd.int .i64) w A0_1 l0_1.length l0_1) (hc1 : l0_1.length ≤ c0_1) (hm : l0_1.length ≤ maxLen) :
    Calls Try.prog 7 #[.agg #[.int .i64 a0_0, .slice A0_1 l0_1.length c0_1]] w fun e w' => e = .returned (.bool true) ∧ Below w.heap.size w w' := by
  obtain ⟨s, e0, hsm⟩ := szTab a0_0 l0_1 hm
  by_cases hs : s < 0
  · exact FnExactCompileTable_small0 0 _ _ _ _ s w h1 hc1 e0 hs
  have g1 := hsm (by omega)
  obtain ⟨K1, e1⟩ := toTab a0_0 l0_1 g1
  obtain ⟨K3, e3⟩ := specCompileTable a0_0 l0_1 hm
  obtain ⟨K4, e4⟩ := implCompileTable a0_0 l0_1 hm
  obtain ⟨K5, e5⟩ := eqTab a0_0 l0_1 hm
  obtain ⟨⟨t0, t1, t2, t3, t4⟩, ht⟩ : ∃ t, t = resCompileTable a0_0 l0_1 := ⟨_, rfl⟩
  have q1 : (resCompileTable a0_0 l0_1).2.2.1.length ≤ 72 := by
    unfold resCompileTable
    by_cases h : TabOk a0_0 l0_1 ∧ a0_0 ≤ 3
    · rw [if_pos h]; exact (h.1.sb h.2).len.1
    · rw [if_neg h]; simp
  rw [← ht] at e3 e4 q1
  simp only at q1
  obtain ⟨K7, e7⟩ := eqBo t0 t1 t2 (by simp only [maxLen]; omega)
  obtain ⟨K8, e8⟩ := markTab a0_0 l0_1 g1
  obtain ⟨K9, e9⟩ := markBo t0 t1 t2 1 (by simp only [maxLen]; omega) (by omega) (by omega)
  obtain ⟨K10, e10⟩ := heldBo t0 t1 t2.length 1 (by simp only [maxLen]; omega) (by omega) (by omega)
  exact FnExactCompileTable_walk (K1 + K3 + K4 + K5 + K7 + K8 + K9 + K10) _ _ _ _ s t0 t1 t2 t3 t4 t2 _ _ _ _ w h1 hc1 e0 (by omega) (e1 _ (by omega)) (e3 _ (by omega)) (e4 _ (by omega)) (e7 _ (by omega)) (e5 _ (by omega)) (e8 _ (by omega)) (by omega) (e9 _ (by omega)) (by omega) (e10 _ (by omega))
end Go.Proofs.Ytnccomklpfbcpaa.A
end

section
/- Opens an argument that a row reads as data into the cells and lists that a contract speaks of: whole numbers, slices, structs of two and three fields. -/
namespace Go.Proofs.Ytnccomklpfbcpaa.Op
open Go.ChangeShapes Go.WideShapes Go.Deep Go.RowKit Go.Proofs.YtnccomklpfbcpaaW.PrintWords
set_option linter.unusedVariables false

/-- What reads as data of type t is of kind d, and meets wf. -/
def Opens (P : Program) (t : TypeId) {α : Type} (d : Kd α) (wf : α → Prop) : Prop :=
  ∀ {H : Type} {enc : TypeId × Value → H} {w : World} {base : Nat} {spare : Nat → Bool} {held : Bool} {fuel : Nat} {cs : List Value} {x : DataW H × List MemPlace},
    DataW.trod enc P w base spare held fuel t cs = some x → ∃ a, d.K w a cs ∧ wf a

def WNum (k : IntKind) (n : Int) : Prop := (Lit.int k n).wf = true
abbrev WInt : Int → Prop := WNum .i64
def WList {α : Type} (wf : α → Prop) (l : List α) : Prop := l.length ≤ maxLen ∧ ∀ a ∈ l, wf a

theorem opens_int {P : Program} {t : TypeId} {k : IntKind} (h : P.underlying t = some (.int k)) : Opens P t (Kd.int k) (WNum k) := by
  intro H enc w base spare held fuel cs x ht
  obtain ⟨n, rfl, _, hw⟩ := DataW.trod_int h ht
  exact ⟨n, rfl, hw⟩

theorem opens_slice {P : Program} {t e : TypeId} {α : Type} {d : Kd α} {wf : α → Prop} (q : Nat) (h : P.underlying t = some (.slice e)) (hc : P.cellsOf e = d.sz) (o : Opens P e d wf) :
    Opens P t (Kd.slice q d) (WList wf) := by
  intro H enc w base spare held fuel cs x ht
  rcases open_slice h ht with ⟨rfl, _⟩ | ⟨a, len, cap, m, n, D, Pl, rfl, hb, hl, hm, hmm, hx, hi⟩
  · exact ⟨[], ⟨none, 0, rfl, Nat.le_refl _, rfl, by simp, fun hn => by simp at hn⟩, by simp [WList]⟩
  · have hlm : len ≤ m := by rw [hmm]; split <;> omega
    have each : ∀ i, i < len → ∃ y cs', w.cells? base (a.add (i * d.sz)) d.sz = some cs' ∧ d.K w y cs' ∧ wf y := by
      intro i hil
      obtain ⟨cs', h1, h2⟩ := hi i (by omega)
      obtain ⟨y, hk, hw⟩ := o h2
      rw [hc] at h1
      exact ⟨y, cs', h1, hk, hw⟩
    have build : ∀ k, k ≤ len → ∃ ys : List α, ys.length = k ∧ (∀ y ∈ ys, wf y) ∧ ∀ j y, ys[j]? = some y → ∃ c, c.length = d.sz ∧ d.K w y c ∧ ∀ i u, c[i]? = some u → w.cell? (a.add (j * d.sz + i)) = some u := by
      intro k
      induction k with
      | zero => exact fun _ => ⟨[], rfl, by simp, by simp⟩
      | succ k ih =>
        intro hk
        obtain ⟨ys, hlen, hwf, hys⟩ := ih (by omega)
        obtain ⟨y, cs', h1, h2, h3⟩ := each k (by omega)
        obtain ⟨_, hcl, hat⟩ := World.cells?_some h1
        refine ⟨ys ++ [y], by simp [hlen], ?_, ?_⟩
        · intro z hz
          rcases List.mem_append.1 hz with hz | hz
          · exact hwf z hz
          · rw [List.mem_singleton.1 hz]; exact h3
        · intro j z hj
          by_cases hjk : j < k
          · rw [List.getElem?_append_left (by omega)] at hj
            exact hys j z hj
          · have hjl : j < (ys ++ [y]).length := (List.getElem?_eq_some_iff.1 hj).1
            simp only [List.length_append, List.length_singleton, hlen] at hjl
            obtain rfl : j = k := by omega
            rw [List.getElem?_append_right (by omega), hlen, Nat.sub_self] at hj
            obtain rfl : y = z := by simpa using hj
            refine ⟨cs', hcl, h2, fun i u hu => ?_⟩
            have hil : i < d.sz := by
              have := (List.getElem?_eq_some_iff.1 hu).1
              omega
            have := hat i hil
            rw [Go.Deep.add_add] at this
            rw [this, hu]
    obtain ⟨ys, hlen, hwf, hys⟩ := build len (Nat.le_refl _)
    have hmx : len ≤ maxLen := by omega
    exact ⟨ys, ⟨some a, cap, by rw [hlen], by rw [hlen]; exact hl, rfl, by rw [hlen]; exact hmx, fun _ => ⟨a, rfl, hys⟩⟩, by rw [hlen]; exact hmx, hwf⟩

theorem opens_iso {P : Program} {t : TypeId} {α β : Type} {d : Kd α} {wf : α → Prop} (f : β → α) (g : α → β) (hg : ∀ a, f (g a) = a) (o : Opens P t d wf) : Opens P t (Kd.iso d f) (fun b => wf (f b)) := by
  intro H enc w base spare held fuel cs x ht
  obtain ⟨a, h1, h2⟩ := o ht
  exact ⟨g a, by show d.K w (f (g a)) cs; rw [hg]; exact h1, by show wf (f (g a)); rw [hg]; exact h2⟩

theorem opens_two {P : Program} {t : TypeId} {f0 f1 : Field} {α β : Type} {a : Kd α} {b : Kd β} {wa : α → Prop} {wb : β → Prop}
    (h : P.underlying t = some (.struct #[f0, f1])) (hc : P.cellsOf t = a.sz + b.sz) (o0 : f0.offset = 0) (o1 : f1.offset = a.sz) (c0 : P.cellsOf f0.type = a.sz) (c1 : P.cellsOf f1.type = b.sz)
    (oa : Opens P f0.type a wa) (ob : Opens P f1.type b wb) : Opens P t (Kd.pair a b) (fun x => wa x.1 ∧ wb x.2) := by
  intro H enc w base spare held fuel cs x ht
  obtain ⟨xs, n, _, _, hlen, hxl, hf⟩ := DataW.trod_struct h ht
  have hx2 : xs.length = 2 := hxl
  have h0 := hf 0 f0 rfl
  have h1 := hf 1 f1 rfl
  rw [List.getElem?_eq_getElem (by omega)] at h0 h1
  obtain ⟨y0, k0, w0⟩ := oa h0
  obtain ⟨y1, k1, w1⟩ := ob h1
  refine ⟨(y0, y1), ⟨_, _, ?_, k0, k1⟩, w0, w1⟩
  rw [hc] at hlen
  rw [o0, o1, c0, c1, List.drop_zero]
  rw [List.take_of_length_le (l := cs.drop a.sz) (by simp; omega), List.take_append_drop]

theorem opens_three {P : Program} {t : TypeId} {f0 f1 f2 : Field} {α β γ : Type} {a : Kd α} {b : Kd β} {c : Kd γ} {wa : α → Prop} {wb : β → Prop} {wc : γ → Prop}
    (h : P.underlying t = some (.struct #[f0, f1, f2])) (hc : P.cellsOf t = a.sz + (b.sz + c.sz)) (o0 : f0.offset = 0) (o1 : f1.offset = a.sz) (o2 : f2.offset = a.sz + b.sz) (c0 : P.cellsOf f0.type = a.sz) (c1 : P.cellsOf f1.type = b.sz) (c2 : P.cellsOf f2.type = c.sz)
    (oa : Opens P f0.type a wa) (ob : Opens P f1.type b wb) (oc : Opens P f2.type c wc) : Opens P t (Kd.pair a (Kd.pair b c)) (fun x => wa x.1 ∧ wb x.2.1 ∧ wc x.2.2) := by
  intro H enc w base spare held fuel cs x ht
  obtain ⟨xs, n, _, _, hlen, hxl, hf⟩ := DataW.trod_struct h ht
  have hx2 : xs.length = 3 := hxl
  have h0 := hf 0 f0 rfl
  have h1 := hf 1 f1 rfl
  have h2 := hf 2 f2 rfl
  rw [List.getElem?_eq_getElem (by omega)] at h0 h1 h2
  obtain ⟨y0, k0, w0⟩ := oa h0
  obtain ⟨y1, k1, w1⟩ := ob h1
  obtain ⟨y2, k2, w2⟩ := oc h2
  rw [hc] at hlen
  refine ⟨(y0, y1, y2), ⟨_, cs.drop a.sz, ?_, k0, ⟨_, _, ?_, k1, k2⟩⟩, w0, w1, w2⟩
  · rw [o0, c0, List.drop_zero, List.take_append_drop]
  · rw [o1, o2, c1, c2]
    rw [List.take_of_length_le (l := cs.drop (a.sz + b.sz)) (by simp; omega), ← List.drop_drop, List.take_append_drop]

/-- A slice among the arguments. -/
theorem open_arg_slice {P : Program} {t : TypeId} {α : Type} {d : Kd α} {wf : α → Prop} {q : Nat} (o : Opens P t (Kd.slice q d) (WList wf)) {H : Type} {enc : TypeId × Value → H} {w : World} {base : Nat} {spare : Nat → Bool} {held : Bool}
    {A : Option Addr} {len cap : Nat} {D : DataW H} {ps : List MemPlace} (h : DataW.Trod enc P w base spare held t (.slice A len cap) D ps) :
    ∃ l : List α, len = l.length ∧ l.length ≤ cap ∧ d.C w A l.length l ∧ WList wf l := by
  obtain ⟨fuel, hf⟩ := h
  obtain ⟨l, ⟨A', c, he, hl, hC⟩, hw⟩ := o hf
  simp only [Value.cells, List.cons.injEq, Value.slice.injEq, and_true] at he
  obtain ⟨rfl, rfl, rfl⟩ := he
  exact ⟨l, rfl, hl, hC, hw⟩
end Go.Proofs.Ytnccomklpfbcpaa.Op
end

section
/- FnExactCompileTable: the program and the reference agree for all arguments: the row over the pure statement. -/
namespace Go.Proofs.Ytnccomklpfbcpaa.fnExactCompileTable
open Go.ChangeShapes Go.WideShapes Go.ChangeAt Go.RowKit
open Go.ChangeMaps (open_string shut_string)
open Go.Proofs.Ytnccomklpfbcpaa.Op
set_option linter.unusedVariables false
theorem own : ownKnob Try.prog.godebug = none := by kernel_rfl
theorem laidOut : laidOutB Try.prog = true := by kernel_rfl
theorem ty3 : Opens Try.prog 3 (Go.Proofs.YtnccomklpfbcpaaW.PrintWords.Kd.int .i64) (WNum .i64) := opens_int Try.underlying3
theorem ty22 : Opens Try.prog 22 (Go.Proofs.YtnccomklpfbcpaaW.PrintWords.Kd.slice 3 (Go.Proofs.YtnccomklpfbcpaaW.PrintWords.Kd.int .i64)) (WList (WNum .i64)) := opens_slice 3 Try.underlying22 (by kernel_rfl) ty3
theorem tw24 : Opens Try.prog 24 (Go.Proofs.YtnccomklpfbcpaaW.PrintWords.Kd.pair (Go.Proofs.YtnccomklpfbcpaaW.PrintWords.Kd.int .i64) (Go.Proofs.YtnccomklpfbcpaaW.PrintWords.Kd.slice 3 (Go.Proofs.YtnccomklpfbcpaaW.PrintWords.Kd.int .i64))) (fun x : Int × (List Int) => (WNum .i64) x.1 ∧ (WList (WNum .i64)) x.2) := opens_two Try.underlying24 (by kernel_rfl) (by kernel_rfl) (by kernel_rfl) (by kernel_rfl) (by kernel_rfl) ty3 ty22
set_option maxRecDepth 100000 in
theorem lifted (os : Os) (started : os.Started) (H : Type) (enc : TypeId × Value → H) :
    ReturnsInHanded {} Try.checked os 7 .any (Rows.fnExactCompileTableSpec.pre6 enc Try.prog Try.f7 Rows.fnExactCompileTableRow.domain false) (Rows.fnExactCompileTableSpec.post enc Try.prog Try.f7 false true false false) := by
  refine returnsInHanded_of_change_sized (C := Try.checked) own started (by kernel_rfl) Try.func7
    (ChangeSpec.witness6 (enc := enc) (C := Try.checked) false ⟨#[], #[.agg #[.int .i64 0, .slice none 0 0]], []⟩ 8 (by kernel_rfl) (by kernel_rfl) (by kernel_rfl) (by kernel_rfl)) ?_
  intro W base args ds gs before hval0 hW hcnd hsz0 _
  have hsz : (DataW.weightsEach Try.prog (Try.f7.params.toList ++ Rows.fnExactCompileTableSpec.plain.varTypes Try.prog) (ds ++ gs)).all (· ≤ reachBytes) = true := hsz0
  have hval : ∀ (j : Nat) t v, Try.f7.params[j]? = some t → args[j]? = some v → Value.okWide Try.prog W .any base t v := hval0
  have hW' := hW
  obtain ⟨p, q, hA0, hV, rfl, hfz, hnd⟩ := hW
  have hA : DataW.TrodAll enc Try.prog W 0 (fun _ => true) true Try.f7.params.toList args.toList ds p := hA0
  rw [Try.params7] at hA hval hsz
  obtain ⟨v0, vs0, d0, ds0, p0, q0, hargs, rfl, rfl, h0, r0⟩ := trodAll_cons hA
  obtain ⟨rfl, rfl, rfl⟩ := trodAll_nil r0
  obtain rfl : args = #[v0] := by cases args; simp_all
  obtain ⟨rfl, rfl⟩ := trodVars_none hV
  have k0 := h0
  have lt0 : ∀ x ∈ p0, x.block < W.heap.size := by obtain ⟨m, hm⟩ := k0; exact DataW.trod_lt m _ _ _ hm
  obtain ⟨cs0, rfl, _⟩ := okWide_struct Try.underlying24 (hval 0 24 v0 rfl rfl)
  obtain ⟨csl0⟩ := cs0
  obtain ⟨fu0, hf0⟩ := h0
  obtain ⟨⟨a0_0, l0_1⟩, ⟨x0_0, x0_1, ex0, e0_0, ⟨A0_1, c0_1, e0_1, hc0_1, hC0_1⟩⟩, ⟨w0_0, w0_1⟩⟩ := tw24 hf0
  replace e0_0 : x0_0 = [Value.int .i64 a0_0] := e0_0
  replace e0_1 : x0_1 = [Value.slice A0_1 l0_1.length c0_1] := e0_1
  replace hc0_1 : l0_1.length ≤ c0_1 := hc0_1
  replace hC0_1 : Go.Proofs.YtnccomklpfbcpaaW.PrintWords.Kd.C (Go.Proofs.YtnccomklpfbcpaaW.PrintWords.Kd.int .i64) W A0_1 l0_1.length l0_1 := hC0_1
  replace w0_0 : (WNum .i64) a0_0 := w0_0
  replace w0_1 : (WList (WNum .i64)) l0_1 := w0_1
  subst e0_0 e0_1
  have ex0' : csl0 = [.int .i64 a0_0, .slice A0_1 l0_1.length c0_1] := ex0
  subst ex0'
  clear hA0 hval0 hsz0 hsz
  refine (A.lawFnExactCompileTable a0_0 A0_1 c0_1 l0_1 W hC0_1 hc0_1 w0_1.1).mono fun e W' ⟨he, bel⟩ => ?_
  subst he
  exact ⟨_, rfl, _, _, _, [], _, [], hW', trodAll_mk1 (shut_bool Try.underlying4 _), (trodAll_cons_mk (Below.trod laidOut (by kernel_rfl) (of_decide_eq_true (by kernel_rfl)) k0 bel lt0) trodAll_mk0), rfl, bel.frame _, fun h => by cases h⟩
theorem over : Rows.fnExactCompileTableRow.holds Try.pinned (OpenSpec.ofChange Rows.fnExactCompileTableSpec) :=
  OpenClaim.holds_of_wide 7 Try.f7 rfl rfl rfl rfl rfl rfl rfl ⟨rfl, rfl, rfl, rfl, rfl⟩ rfl rfl rfl rfl rfl (by kernel_rfl) Try.func7 (by kernel_rfl)
    (of_decide_eq_true (by kernel_rfl)) (by unfold Func.isWrapper; first | (rw [if_pos (by decide +kernel)]; kernel_rfl) | (rw [if_neg (by decide +kernel)]; exact ⟨rfl, rfl⟩))
    (fun os started H enc _ => lifted os started H enc)
end Go.Proofs.Ytnccomklpfbcpaa.fnExactCompileTable
namespace Go.Proofs.Ytnccomklpfbcpaa
/-- The row. -/
theorem fnExactCompileTable_holds : Rows.FnExactCompileTableSaid := fnExactCompileTable.over
end Go.Proofs.Ytnccomklpfbcpaa
end
