/- FnExactTurnFinal: texts of this claim in one: WalkFnExactTurnFinal, T, ABase, AMark, AAu, LawTurnFinal, Op, RowFnExactTurnFinal. -/
import Derived.Test.YtkfedkckakegjaaPx25
import Derived.Test.YtkfedkckakegjaaPx29
import Derived.Test.YtkfedkckakegjaaPx3
import Derived.Test.YtkfedkckakegjaaPx30
import Derived.Test.YtkfedkckakegjaaPx32
import Derived.Test.YtkfedkckakegjaaPx6
import Derived.Test.YtkfedkckakegjaaPx9
import Derived.Test.YtkfedkckakegjaaOwnW
import Derived.Test.YtkfedkckakegjaaWMore
import Derived.Test.YtkfedkckakegjaaPx10
import Derived.Test.YtkfedkckakegjaaPx1
import Derived.Test.YtkfedkckakegjaaPx4
import Derived.Test.YtkfedkckakegjaaPx7
import Derived.Test.YtkfedkckakegjaaPx23
import Derived.Test.YtkfedkckakegjaaPx26
import Derived.Test.YtkfedkckakegjaaPx11
import Derived.Test.YtkfedkckakegjaaPx14
import Derived.Test.YtkfedkckakegjaaPx15
import Derived.Test.YtkfedkckakegjaaPx19
import Derived.Test.YtkfedkckakegjaaPx20
import Derived.Test.YtkfedkckakegjaaPx24
import Derived.Test.YtkfedkckakegjaaPx31
import Derived.Test.YtkfedkckakegjaaPx2
import Derived.Test.YtkfedkckakegjaaPx5
import Derived.Test.YtkfedkckakegjaaPx8
import Derived.Test.YtkfedkckakegjaaPx12
import Derived.Test.YtkfedkckakegjaaPx13
import Derived.Test.YtkfedkckakegjaaPx18
import Derived.Test.YtkfedkckakegjaaPx80
import Derived.Test.YtkfedkckakegjaaPx82
import Derived.Test.YtkfedkckakegjaaPx34
import Derived.Test.YtkfedkckakegjaaPx36
import Derived.Test.YtkfedkckakegjaaPx28
import Derived.Deep.Slices
import Derived.ChangeSame
import Derived.ChangeArms
import Derived.Test.YtkfedkckakegjaaWWords
import Derived.Test.YtkfedkckakegjaaRows
import Derived.WalkKit
import Derived.ProofKit
import Derived.OpenShut
import Derived.ShutString
import Derived.ChangeOld
import Derived.Below
import Derived.SizedLaws
section
/- The walk of FnExactTurnFinal along the one way on which all its tests succeed, and the short ones where an argument is too great. -/
namespace Go.Proofs.Ytkfedkckakegjaa.P
open Go.RowKit Go.Proofs.YtkfedkckakegjaaW.PrintWords Go.Proofs.YtkfedkckakegjaaW.PrintLast Go.Proofs.YtkfedkckakegjaaW.PrintMore Go.Proofs.Ytkfedkckakegjaa
set_option linter.unusedVariables false
set_option linter.unusedSimpArgs false
set_option maxHeartbeats 4000000 in
set_option maxRecDepth 100000 in
theorem FnExactTurnFinal_small0 (k : Nat) (a0_0 : Int) (A0_1 : Option Addr) (c0_1 : Nat) (l0_1 : List (List (Int))) (A0_2 : Option Addr) (c0_2 : Nat) (l0_2 : List (Int)) (z_aA : Int) (w : World)
    (hr0_1 : Kd.C (Kd.slice 3 (Kd.int .i64)) w A0_1 l0_1.length l0_1) (hc0_1 : l0_1.length ≤ c0_1)
    (hr0_2 : Kd.C (Kd.int .i64) w A0_2 l0_2.length l0_2) (hc0_2 : l0_2.length ≤ c0_2)
    (e_sz_aA : laws_szAutomaton.f k a0_0 l0_1 l0_2 1048576 = some z_aA)
    (hz_aA : z_aA < 0) :
    Calls Try.prog 6 #[.agg #[.int .i64 a0_0, .slice A0_1 l0_1.length c0_1, .slice A0_2 l0_2.length c0_2]] w fun e w' => e = .returned (.bool true) ∧ Below w.heap.size w w' := by
  have hu29 := Try.underlying29
  have hu25 := Try.underlying25
  have hzb_aA : decide (z_aA < 0) = true := decide_eq_true (by omega)
  have HR0_1 := Aside0.mk hr0_1
  clear hr0_1
  have HC0_1 := Aside0.mk hc0_1
  clear hc0_1
  have HR0_2 := Aside0.mk hr0_2
  clear hr0_2
  have HC0_2 := Aside0.mk hc0_2
  clear hc0_2
  have He_sz_aA := Aside0.mk e_sz_aA
  clear e_sz_aA
  have HB := Aside0.mk (Below.refl w.heap.size w)
  go_enter Try.func6, Try.ntmps6
  go_wp2_with fail
  refine (laws_szAutomaton.calls k _ _ _ _ _ _ _ _ _ _ (Kd.C_below HR0_1.out (below_step HB.out (by repeat (first | with_reducible exact Below.refl _ _ | with_reducible apply below_alloc | with_reducible refine below_set ?_ (Nat.le_refl _) | with_reducible apply pw_below_drewN | with_reducible apply below_drew1)))) HC0_1.out (Kd.C_below HR0_2.out (below_step HB.out (by repeat (first | with_reducible exact Below.refl _ _ | with_reducible apply below_alloc | with_reducible refine below_set ?_ (Nat.le_refl _) | with_reducible apply pw_below_drewN | with_reducible apply below_drew1)))) HC0_2.out He_sz_aA.out).mono ?_
  rintro e w1 ⟨rfl, hb⟩
  have BK_aA := Aside0.mk (blk_below (g := w.heap.size) (o := .cells #[.int .i64 a0_0, .slice A0_1 l0_1.length c0_1, .slice A0_2 l0_2.length c0_2] 25 (0, 0)) (by (repeat (first | with_reducible refine blk_drewN ?_ _ | with_reducible refine blk_drew ?_)); exact (blk_new _ _)) hb)
  have HG_BK_aA : Aside0 (w.heap.size < w1.heap.size) := ⟨blk_lt BK_aA.out⟩
  have HW := Aside0.mk (below_step (w := w) (by repeat (first | with_reducible exact Below.refl _ _ | with_reducible apply below_alloc | with_reducible refine below_set ?_ (Nat.le_refl _) | with_reducible apply pw_below_drewN | with_reducible apply below_drew1)) hb)
  have HZ1 : Aside0 (w.heap.size ≤ w1.heap.size) := ⟨HW.out.size⟩
  replace HB := Aside0.mk (below_step HB.out HW.out)
  clear hb HW
  have czBK_aA_0 : w1.cell? ⟨w.heap.size, 0, none⟩ = some (.int .i64 a0_0) := (blk_cell BK_aA.out 0).trans rfl
  have czBK_aA_1 : w1.cell? ⟨w.heap.size, 1, none⟩ = some (.slice A0_1 l0_1.length c0_1) := (blk_cell BK_aA.out 1).trans rfl
  have czBK_aA_2 : w1.cell? ⟨w.heap.size, 2, none⟩ = some (.slice A0_2 l0_2.length c0_2) := (blk_cell BK_aA.out 2).trans rfl
  go_wp2_with fail
  go_ret
  exact ⟨rfl, below_step HB.out (by repeat (first | with_reducible exact Below.refl _ _ | with_reducible apply below_alloc | with_reducible refine below_set ?_ (Nat.le_refl _) | with_reducible apply pw_below_drewN | with_reducible apply below_drew1))⟩
set_option maxHeartbeats 4000000 in
set_option maxRecDepth 100000 in
theorem FnExactTurnFinal_walk (k : Nat) (a0_0 : Int) (A0_1 : Option Addr) (c0_1 : Nat) (l0_1 : List (List (Int))) (A0_2 : Option Addr) (c0_2 : Nat) (l0_2 : List (Int)) (z_aA : Int) (r0_0 : Int) (r0_1 : List (List (Int))) (r0_2 : List (Int)) (r1 : Bool) (s0_1 : List (List (Int))) (s0_2 : List (Int)) (kx0 : Int) (nx0_1 : List (List (Int))) (nx0_2 : List (Int)) (mg0 : Int) (ng0_1 : List (List (Int))) (ng0_2 : List (Int)) (w : World)
    (hr0_1 : Kd.C (Kd.slice 3 (Kd.int .i64)) w A0_1 l0_1.length l0_1) (hc0_1 : l0_1.length ≤ c0_1)
    (hr0_2 : Kd.C (Kd.int .i64) w A0_2 l0_2.length l0_2) (hc0_2 : l0_2.length ≤ c0_2)
    (e_sz_aA : laws_szAutomaton.f k a0_0 l0_1 l0_2 1048576 = some z_aA)
    (hz_aA : 0 ≤ z_aA)
    (e_to_aA : laws_toAutomaton.f k a0_0 l0_1 l0_2 = some (a0_0, l0_1, l0_2))
    (e_spec : spec_TurnFinal.f k a0_0 l0_1 l0_2 = some (r0_0, r0_1, r0_2, r1))
    (e_impl : impl_TurnFinal.f k a0_0 l0_1 l0_2 = some (r0_0, s0_1, s0_2, r1))
    (e_eq_w0 : laws_eqAutomaton.f k r0_0 s0_1 s0_2 r0_0 r0_1 r0_2 = some true)
    (e_eq_x0 : laws_eqAutomaton.f k a0_0 l0_1 l0_2 a0_0 l0_1 l0_2 = some true)
    (e_mark_x0 : laws_markAutomaton.f k a0_0 l0_1 l0_2 1 = some (kx0, nx0_1, nx0_2))
    (hkx0 : 0 ≤ kx0)
    (e_mark_g0 : laws_markAutomaton.f k r0_0 s0_1 s0_2 1 = some (mg0, ng0_1, ng0_2))
    (hmg0 : 0 ≤ mg0)
    (e_held_g0 : laws_heldAutomaton.f k r0_0 ng0_1 ng0_2 1 = some mg0) :
    Calls Try.prog 6 #[.agg #[.int .i64 a0_0, .slice A0_1 l0_1.length c0_1, .slice A0_2 l0_2.length c0_2]] w fun e w' => e = .returned (.bool true) ∧ Below w.heap.size w w' := by
  have hu29 := Try.underlying29
  have hu25 := Try.underlying25
  have hzb_aA : decide (z_aA < 0) = false := decide_eq_false (by omega)
  have HR0_1 := Aside0.mk hr0_1
  clear hr0_1
  have HC0_1 := Aside0.mk hc0_1
  clear hc0_1
  have HR0_2 := Aside0.mk hr0_2
  clear hr0_2
  have HC0_2 := Aside0.mk hc0_2
  clear hc0_2
  have He_sz_aA := Aside0.mk e_sz_aA
  clear e_sz_aA
  have He_to_aA := Aside0.mk e_to_aA
  clear e_to_aA
  have He_spec := Aside0.mk e_spec
  clear e_spec
  have He_impl := Aside0.mk e_impl
  clear e_impl
  have He_eq_w0 := Aside0.mk e_eq_w0
  clear e_eq_w0
  have He_eq_x0 := Aside0.mk e_eq_x0
  clear e_eq_x0
  have He_mark_x0 := Aside0.mk e_mark_x0
  clear e_mark_x0
  have hkb_x0 : decide (kx0 < 0) = false := decide_eq_false (by omega)
  have He_mark_g0 := Aside0.mk e_mark_g0
  clear e_mark_g0
  have hmb_g0 : decide (mg0 < 0) = false := decide_eq_false (by omega)
  have He_held_g0 := Aside0.mk e_held_g0
  clear e_held_g0
  have HB := Aside0.mk (Below.refl w.heap.size w)
  go_enter Try.func6, Try.ntmps6
  go_wp2_with fail
  refine (laws_szAutomaton.calls k _ _ _ _ _ _ _ _ _ _ (Kd.C_below HR0_1.out (below_step HB.out (by repeat (first | with_reducible exact Below.refl _ _ | with_reducible apply below_alloc | with_reducible refine below_set ?_ (Nat.le_refl _) | with_reducible apply pw_below_drewN | with_reducible apply below_drew1)))) HC0_1.out (Kd.C_below HR0_2.out (below_step HB.out (by repeat (first | with_reducible exact Below.refl _ _ | with_reducible apply below_alloc | with_reducible refine below_set ?_ (Nat.le_refl _) | with_reducible apply pw_below_drewN | with_reducible apply below_drew1)))) HC0_2.out He_sz_aA.out).mono ?_
  rintro e w1 ⟨rfl, hb⟩
  have BK_aA := Aside0.mk (blk_below (g := w.heap.size) (o := .cells #[.int .i64 a0_0, .slice A0_1 l0_1.length c0_1, .slice A0_2 l0_2.length c0_2] 25 (0, 0)) (by (repeat (first | with_reducible refine blk_drewN ?_ _ | with_reducible refine blk_drew ?_)); exact (blk_new _ _)) hb)
  have HG_BK_aA : Aside0 (w.heap.size < w1.heap.size) := ⟨blk_lt BK_aA.out⟩
  have HW := Aside0.mk (below_step (w := w) (by repeat (first | with_reducible exact Below.refl _ _ | with_reducible apply below_alloc | with_reducible refine below_set ?_ (Nat.le_refl _) | with_reducible apply pw_below_drewN | with_reducible apply below_drew1)) hb)
  have HZ1 : Aside0 (w.heap.size ≤ w1.heap.size) := ⟨HW.out.size⟩
  replace HB := Aside0.mk (below_step HB.out HW.out)
  clear hb HW
  have czBK_aA_0 : w1.cell? ⟨w.heap.size, 0, none⟩ = some (.int .i64 a0_0) := (blk_cell BK_aA.out 0).trans rfl
  have czBK_aA_1 : w1.cell? ⟨w.heap.size, 1, none⟩ = some (.slice A0_1 l0_1.length c0_1) := (blk_cell BK_aA.out 1).trans rfl
  have czBK_aA_2 : w1.cell? ⟨w.heap.size, 2, none⟩ = some (.slice A0_2 l0_2.length c0_2) := (blk_cell BK_aA.out 2).trans rfl
  go_wp2_with fail
  refine (laws_toAutomaton.calls k _ _ _ _ _ _ _ _ _ _ _ (Kd.C_below HR0_1.out (below_step HB.out (by repeat (first | with_reducible exact Below.refl _ _ | with_reducible apply below_alloc | with_reducible refine below_set ?_ (Nat.le_refl _) | with_reducible apply pw_below_drewN | with_reducible apply below_drew1)))) HC0_1.out (Kd.C_below HR0_2.out (below_step HB.out (by repeat (first | with_reducible exact Below.refl _ _ | with_reducible apply below_alloc | with_reducible refine below_set ?_ (Nat.le_refl _) | with_reducible apply pw_below_drewN | with_reducible apply below_drew1)))) HC0_2.out He_to_aA.out).mono ?_
  rintro e w2 ⟨vt14_0, vt14_1, rfl, hf1, hf2, hb⟩
  clear czBK_aA_0 czBK_aA_1 czBK_aA_2
  have HN := Aside0.mk HB.out.size
  have HW := Aside0.mk (below_step (w := w1) (by repeat (first | with_reducible exact Below.refl _ _ | with_reducible apply below_alloc | with_reducible refine below_set ?_ (Nat.le_refl _) | with_reducible apply pw_below_drewN | with_reducible apply below_drew1)) hb)
  have HZ2 : Aside0 (w1.heap.size ≤ w2.heap.size) := ⟨HW.out.size⟩
  replace HB := Aside0.mk (below_step HB.out HW.out)
  replace BK_aA := Aside0.mk (blk_below BK_aA.out HW.out)
  obtain ⟨lo1_, F1, HLO1⟩ := Own.S_iv (wN := w1) hf1 HN.out (by repeat (first | with_reducible exact Below.refl _ _ | with_reducible apply below_alloc | with_reducible refine below_set ?_ (Nat.le_refl _) | with_reducible apply pw_below_drewN | with_reducible apply below_drew1)) hb
  obtain ⟨lo2_, F2, HLO2⟩ := Own.R_iv (wN := w1) rfl hf2 HN.out (by repeat (first | with_reducible exact Below.refl _ _ | with_reducible apply below_alloc | with_reducible refine below_set ?_ (Nat.le_refl _) | with_reducible apply pw_below_drewN | with_reducible apply below_drew1)) hb
  obtain ⟨A1_, c1_, e1_⟩ := Kd.S_slice F1.out
  subst e1_
  obtain ⟨A2_, c2_, e2_⟩ := Kd.R_slice F2.out
  subst e2_
  clear hb HW HN hf1 hf2
  have czBK_aA_0 : w2.cell? ⟨w.heap.size, 0, none⟩ = some (.int .i64 a0_0) := (blk_cell BK_aA.out 0).trans rfl
  have czBK_aA_1 : w2.cell? ⟨w.heap.size, 1, none⟩ = some (.slice A0_1 l0_1.length c0_1) := (blk_cell BK_aA.out 1).trans rfl
  have czBK_aA_2 : w2.cell? ⟨w.heap.size, 2, none⟩ = some (.slice A0_2 l0_2.length c0_2) := (blk_cell BK_aA.out 2).trans rfl
  go_wp2_with fail
  refine (spec_TurnFinal.calls k _ _ _ _ _ _ _ _ _ _ _ _ (Kd.C_below (Kd.S_reads' F1.out).2.2 (by repeat (first | with_reducible exact Below.refl _ _ | with_reducible apply below_alloc | with_reducible refine below_set ?_ (Nat.le_refl _) | with_reducible apply pw_below_drewN | with_reducible apply below_drew1))) (Kd.S_reads' F1.out).2.1 (Kd.C_below (Kd.R_reads' F2.out).2.2 (by repeat (first | with_reducible exact Below.refl _ _ | with_reducible apply below_alloc | with_reducible refine below_set ?_ (Nat.le_refl _) | with_reducible apply pw_below_drewN | with_reducible apply below_drew1))) (Kd.R_reads' F2.out).2.1 He_spec.out).mono ?_
  rintro e w3 ⟨vw0_0, vw0_1, rfl, hf3, hf4, hb⟩
  clear czBK_aA_0 czBK_aA_1 czBK_aA_2
  have HN := Aside0.mk HB.out.size
  have HW := Aside0.mk (below_step (w := w2) (by repeat (first | with_reducible exact Below.refl _ _ | with_reducible apply below_alloc | with_reducible refine below_set ?_ (Nat.le_refl _) | with_reducible apply pw_below_drewN | with_reducible apply below_drew1)) hb)
  have HZ3 : Aside0 (w2.heap.size ≤ w3.heap.size) := ⟨HW.out.size⟩
  replace HB := Aside0.mk (below_step HB.out HW.out)
  replace F1 := Aside0.mk (Kd.S_below F1.out HW.out)
  replace F2 := Aside0.mk (Kd.R_below F2.out HW.out)
  replace BK_aA := Aside0.mk (blk_below BK_aA.out HW.out)
  obtain ⟨lo3_, F3, HLO3⟩ := Own.S_iv (wN := w2) hf3 HN.out (by repeat (first | with_reducible exact Below.refl _ _ | with_reducible apply below_alloc | with_reducible refine below_set ?_ (Nat.le_refl _) | with_reducible apply pw_below_drewN | with_reducible apply below_drew1)) hb
  obtain ⟨lo4_, F4, HLO4⟩ := Own.R_iv (wN := w2) rfl hf4 HN.out (by repeat (first | with_reducible exact Below.refl _ _ | with_reducible apply below_alloc | with_reducible refine below_set ?_ (Nat.le_refl _) | with_reducible apply pw_below_drewN | with_reducible apply below_drew1)) hb
  obtain ⟨A3_, c3_, e3_⟩ := Kd.S_slice F3.out
  subst e3_
  obtain ⟨A4_, c4_, e4_⟩ := Kd.R_slice F4.out
  subst e4_
  clear hb HW HN hf3 hf4
  have czBK_aA_0 : (w3.alloc (.cells #[.int .i64 r0_0, .slice A3_ r0_1.length c3_, .slice A4_ r0_2.length c4_] 29)).cell? ⟨w.heap.size, 0, none⟩ = some (.int .i64 a0_0) := (blk_cell (blk_alloc BK_aA.out _) 0).trans rfl
  have czBK_aA_1 : (w3.alloc (.cells #[.int .i64 r0_0, .slice A3_ r0_1.length c3_, .slice A4_ r0_2.length c4_] 29)).cell? ⟨w.heap.size, 1, none⟩ = some (.slice A0_1 l0_1.length c0_1) := (blk_cell (blk_alloc BK_aA.out _) 1).trans rfl
  have czBK_aA_2 : (w3.alloc (.cells #[.int .i64 r0_0, .slice A3_ r0_1.length c3_, .slice A4_ r0_2.length c4_] 29)).cell? ⟨w.heap.size, 2, none⟩ = some (.slice A0_2 l0_2.length c0_2) := (blk_cell (blk_alloc BK_aA.out _) 2).trans rfl
  go_wp2_with fail
  refine (laws_toAutomaton.calls k _ _ _ _ _ _ _ _ _ _ _ (Kd.C_below HR0_1.out (below_step HB.out (by repeat (first | with_reducible exact Below.refl _ _ | with_reducible apply below_alloc | with_reducible refine below_set ?_ (Nat.le_refl _) | with_reducible apply pw_below_drewN | with_reducible apply below_drew1)))) HC0_1.out (Kd.C_below HR0_2.out (below_step HB.out (by repeat (first | with_reducible exact Below.refl _ _ | with_reducible apply below_alloc | with_reducible refine below_set ?_ (Nat.le_refl _) | with_reducible apply pw_below_drewN | with_reducible apply below_drew1)))) HC0_2.out He_to_aA.out).mono ?_
  rintro e w4 ⟨vx0_0, vx0_1, rfl, hf5, hf6, hb⟩
  clear czBK_aA_0 czBK_aA_1 czBK_aA_2
  have HN := Aside0.mk HB.out.size
  have BK_w0 := Aside0.mk (blk_below (g := w3.heap.size) (o := .cells #[.int .i64 r0_0, .slice A3_ r0_1.length c3_, .slice A4_ r0_2.length c4_] 29 (0, 0)) (by (repeat (first | with_reducible refine blk_drewN ?_ _ | with_reducible refine blk_drew ?_)); exact (blk_new _ _)) hb)
  have HG_BK_w0 : Aside0 (w3.heap.size < w4.heap.size) := ⟨blk_lt BK_w0.out⟩
  have HW := Aside0.mk (below_step (w := w3) (by repeat (first | with_reducible exact Below.refl _ _ | with_reducible apply below_alloc | with_reducible refine below_set ?_ (Nat.le_refl _) | with_reducible apply pw_below_drewN | with_reducible apply below_drew1)) hb)
  have HZ4 : Aside0 (w3.heap.size ≤ w4.heap.size) := ⟨HW.out.size⟩
  replace HB := Aside0.mk (below_step HB.out HW.out)
  replace F1 := Aside0.mk (Kd.S_below F1.out HW.out)
  replace F2 := Aside0.mk (Kd.R_below F2.out HW.out)
  replace F3 := Aside0.mk (Kd.S_below F3.out HW.out)
  replace F4 := Aside0.mk (Kd.R_below F4.out HW.out)
  replace BK_aA := Aside0.mk (blk_below BK_aA.out HW.out)
  obtain ⟨lo5_, F5, HLO5⟩ := Own.S_ivb (wN := w3) (w3.heap.size) hf5 HN.out (by repeat (first | with_reducible exact Below.refl _ _ | with_reducible apply below_alloc | with_reducible refine below_set ?_ (Nat.le_refl _) | with_reducible apply pw_below_drewN | with_reducible apply below_drew1)) hb (blk_lt (o := .cells #[.int .i64 r0_0, .slice A3_ r0_1.length c3_, .slice A4_ r0_2.length c4_] 29 (0, 0)) (by (repeat (first | with_reducible refine blk_drewN ?_ _ | with_reducible refine blk_drew ?_)); exact (blk_new _ _)))
  obtain ⟨lo6_, F6, HLO6⟩ := Own.R_ivb (wN := w3) (w3.heap.size) rfl hf6 HN.out (by repeat (first | with_reducible exact Below.refl _ _ | with_reducible apply below_alloc | with_reducible refine below_set ?_ (Nat.le_refl _) | with_reducible apply pw_below_drewN | with_reducible apply below_drew1)) hb (blk_lt (o := .cells #[.int .i64 r0_0, .slice A3_ r0_1.length c3_, .slice A4_ r0_2.length c4_] 29 (0, 0)) (by (repeat (first | with_reducible refine blk_drewN ?_ _ | with_reducible refine blk_drew ?_)); exact (blk_new _ _)))
  obtain ⟨A5_, c5_, e5_⟩ := Kd.S_slice F5.out
  subst e5_
  obtain ⟨A6_, c6_, e6_⟩ := Kd.R_slice F6.out
  subst e6_
  clear hb HW HN hf5 hf6
  have czBK_aA_0 : (w4.alloc (.cells #[.int .i64 a0_0, .slice A5_ l0_1.length c5_, .slice A6_ l0_2.length c6_] 29)).cell? ⟨w.heap.size, 0, none⟩ = some (.int .i64 a0_0) := (blk_cell (blk_alloc BK_aA.out _) 0).trans rfl
  have czBK_aA_1 : (w4.alloc (.cells #[.int .i64 a0_0, .slice A5_ l0_1.length c5_, .slice A6_ l0_2.length c6_] 29)).cell? ⟨w.heap.size, 1, none⟩ = some (.slice A0_1 l0_1.length c0_1) := (blk_cell (blk_alloc BK_aA.out _) 1).trans rfl
  have czBK_aA_2 : (w4.alloc (.cells #[.int .i64 a0_0, .slice A5_ l0_1.length c5_, .slice A6_ l0_2.length c6_] 29)).cell? ⟨w.heap.size, 2, none⟩ = some (.slice A0_2 l0_2.length c0_2) := (blk_cell (blk_alloc BK_aA.out _) 2).trans rfl
  have czBK_w0_0 : (w4.alloc (.cells #[.int .i64 a0_0, .slice A5_ l0_1.length c5_, .slice A6_ l0_2.length c6_] 29)).cell? ⟨w3.heap.size, 0, none⟩ = some (.int .i64 r0_0) := (blk_cell (blk_alloc BK_w0.out _) 0).trans rfl
  have czBK_w0_1 : (w4.alloc (.cells #[.int .i64 a0_0, .slice A5_ l0_1.length c5_, .slice A6_ l0_2.length c6_] 29)).cell? ⟨w3.heap.size, 1, none⟩ = some (.slice A3_ r0_1.length c3_) := (blk_cell (blk_alloc BK_w0.out _) 1).trans rfl
  have czBK_w0_2 : (w4.alloc (.cells #[.int .i64 a0_0, .slice A5_ l0_1.length c5_, .slice A6_ l0_2.length c6_] 29)).cell? ⟨w3.heap.size, 2, none⟩ = some (.slice A4_ r0_2.length c4_) := (blk_cell (blk_alloc BK_w0.out _) 2).trans rfl
  go_wp2_with fail
  refine (impl_TurnFinal.calls k _ _ _ _ _ _ _ _ _ _ _ _ (Kd.C_below (Kd.S_reads' F5.out).2.2 (by repeat (first | with_reducible exact Below.refl _ _ | with_reducible apply below_alloc | with_reducible refine below_set ?_ (Nat.le_refl _) | with_reducible apply pw_below_drewN | with_reducible apply below_drew1))) (Kd.S_reads' F5.out).2.1 (Kd.C_below (Kd.R_reads' F6.out).2.2 (by repeat (first | with_reducible exact Below.refl _ _ | with_reducible apply below_alloc | with_reducible refine below_set ?_ (Nat.le_refl _) | with_reducible apply pw_below_drewN | with_reducible apply below_drew1))) (Kd.R_reads' F6.out).2.1 He_impl.out).mono ?_
  rintro e w5 ⟨vg0_0, vg0_1, rfl, hf7, hf8, hb⟩
  clear czBK_aA_0 czBK_aA_1 czBK_aA_2 czBK_w0_0 czBK_w0_1 czBK_w0_2
  have HN := Aside0.mk HB.out.size
  have BK_x0 := Aside0.mk (blk_below (g := w4.heap.size) (o := .cells #[.int .i64 a0_0, .slice A5_ l0_1.length c5_, .slice A6_ l0_2.length c6_] 29 (0, 0)) (by (repeat (first | with_reducible refine blk_drewN ?_ _ | with_reducible refine blk_drew ?_)); exact (blk_new _ _)) hb)
  have HG_BK_x0 : Aside0 (w4.heap.size < w5.heap.size) := ⟨blk_lt BK_x0.out⟩
  have HW := Aside0.mk (below_step (w := w4) (by repeat (first | with_reducible exact Below.refl _ _ | with_reducible apply below_alloc | with_reducible refine below_set ?_ (Nat.le_refl _) | with_reducible apply pw_below_drewN | with_reducible apply below_drew1)) hb)
  have HZ5 : Aside0 (w4.heap.size ≤ w5.heap.size) := ⟨HW.out.size⟩
  replace HB := Aside0.mk (below_step HB.out HW.out)
  replace F1 := Aside0.mk (Kd.S_below F1.out HW.out)
  replace F2 := Aside0.mk (Kd.R_below F2.out HW.out)
  replace F3 := Aside0.mk (Kd.S_below F3.out HW.out)
  replace F4 := Aside0.mk (Kd.R_below F4.out HW.out)
  replace F5 := Aside0.mk (Kd.S_below F5.out HW.out)
  replace F6 := Aside0.mk (Kd.R_below F6.out HW.out)
  replace BK_aA := Aside0.mk (blk_below BK_aA.out HW.out)
  replace BK_w0 := Aside0.mk (blk_below BK_w0.out HW.out)
  obtain ⟨lo7_, F7, HLO7⟩ := Own.S_ivb (wN := w4) (w4.heap.size) hf7 HN.out (by repeat (first | with_reducible exact Below.refl _ _ | with_reducible apply below_alloc | with_reducible refine below_set ?_ (Nat.le_refl _) | with_reducible apply pw_below_drewN | with_reducible apply below_drew1)) hb (blk_lt (o := .cells #[.int .i64 a0_0, .slice A5_ l0_1.length c5_, .slice A6_ l0_2.length c6_] 29 (0, 0)) (by (repeat (first | with_reducible refine blk_drewN ?_ _ | with_reducible refine blk_drew ?_)); exact (blk_new _ _)))
  obtain ⟨lo8_, F8, HLO8⟩ := Own.R_ivb (wN := w4) (w4.heap.size) rfl hf8 HN.out (by repeat (first | with_reducible exact Below.refl _ _ | with_reducible apply below_alloc | with_reducible refine below_set ?_ (Nat.le_refl _) | with_reducible apply pw_below_drewN | with_reducible apply below_drew1)) hb (blk_lt (o := .cells #[.int .i64 a0_0, .slice A5_ l0_1.length c5_, .slice A6_ l0_2.length c6_] 29 (0, 0)) (by (repeat (first | with_reducible refine blk_drewN ?_ _ | with_reducible refine blk_drew ?_)); exact (blk_new _ _)))
  obtain ⟨A7_, c7_, e7_⟩ := Kd.S_slice F7.out
  subst e7_
  obtain ⟨A8_, c8_, e8_⟩ := Kd.R_slice F8.out
  subst e8_
  clear hb HW HN hf7 hf8
  have czBK_aA_0 : (w5.alloc (.cells #[.int .i64 r0_0, .slice A7_ s0_1.length c7_, .slice A8_ s0_2.length c8_] 29)).cell? ⟨w.heap.size, 0, none⟩ = some (.int .i64 a0_0) := (blk_cell (blk_alloc BK_aA.out _) 0).trans rfl
  have czBK_aA_1 : (w5.alloc (.cells #[.int .i64 r0_0, .slice A7_ s0_1.length c7_, .slice A8_ s0_2.length c8_] 29)).cell? ⟨w.heap.size, 1, none⟩ = some (.slice A0_1 l0_1.length c0_1) := (blk_cell (blk_alloc BK_aA.out _) 1).trans rfl
  have czBK_aA_2 : (w5.alloc (.cells #[.int .i64 r0_0, .slice A7_ s0_1.length c7_, .slice A8_ s0_2.length c8_] 29)).cell? ⟨w.heap.size, 2, none⟩ = some (.slice A0_2 l0_2.length c0_2) := (blk_cell (blk_alloc BK_aA.out _) 2).trans rfl
  have czBK_w0_0 : (w5.alloc (.cells #[.int .i64 r0_0, .slice A7_ s0_1.length c7_, .slice A8_ s0_2.length c8_] 29)).cell? ⟨w3.heap.size, 0, none⟩ = some (.int .i64 r0_0) := (blk_cell (blk_alloc BK_w0.out _) 0).trans rfl
  have czBK_w0_1 : (w5.alloc (.cells #[.int .i64 r0_0, .slice A7_ s0_1.length c7_, .slice A8_ s0_2.length c8_] 29)).cell? ⟨w3.heap.size, 1, none⟩ = some (.slice A3_ r0_1.length c3_) := (blk_cell (blk_alloc BK_w0.out _) 1).trans rfl
  have czBK_w0_2 : (w5.alloc (.cells #[.int .i64 r0_0, .slice A7_ s0_1.length c7_, .slice A8_ s0_2.length c8_] 29)).cell? ⟨w3.heap.size, 2, none⟩ = some (.slice A4_ r0_2.length c4_) := (blk_cell (blk_alloc BK_w0.out _) 2).trans rfl
  have czBK_x0_0 : (w5.alloc (.cells #[.int .i64 r0_0, .slice A7_ s0_1.length c7_, .slice A8_ s0_2.length c8_] 29)).cell? ⟨w4.heap.size, 0, none⟩ = some (.int .i64 a0_0) := (blk_cell (blk_alloc BK_x0.out _) 0).trans rfl
  have czBK_x0_1 : (w5.alloc (.cells #[.int .i64 r0_0, .slice A7_ s0_1.length c7_, .slice A8_ s0_2.length c8_] 29)).cell? ⟨w4.heap.size, 1, none⟩ = some (.slice A5_ l0_1.length c5_) := (blk_cell (blk_alloc BK_x0.out _) 1).trans rfl
  have czBK_x0_2 : (w5.alloc (.cells #[.int .i64 r0_0, .slice A7_ s0_1.length c7_, .slice A8_ s0_2.length c8_] 29)).cell? ⟨w4.heap.size, 2, none⟩ = some (.slice A6_ l0_2.length c6_) := (blk_cell (blk_alloc BK_x0.out _) 2).trans rfl
  go_wp2_with fail
  refine (laws_eqAutomaton.calls k _ _ _ _ _ _ _ _ _ _ _ _ _ _ _ _ (Kd.C_below (Kd.S_reads' F7.out).2.2 (by repeat (first | with_reducible exact Below.refl _ _ | with_reducible apply below_alloc | with_reducible refine below_set ?_ (Nat.le_refl _) | with_reducible apply pw_below_drewN | with_reducible apply below_drew1))) (Kd.S_reads' F7.out).2.1 (Kd.C_below (Kd.R_reads' F8.out).2.2 (by repeat (first | with_reducible exact Below.refl _ _ | with_reducible apply below_alloc | with_reducible refine below_set ?_ (Nat.le_refl _) | with_reducible apply pw_below_drewN | with_reducible apply below_drew1))) (Kd.R_reads' F8.out).2.1 (Kd.C_below (Kd.S_reads' F3.out).2.2 (by repeat (first | with_reducible exact Below.refl _ _ | with_reducible apply below_alloc | with_reducible refine below_set ?_ (Nat.le_refl _) | with_reducible apply pw_below_drewN | with_reducible apply below_drew1))) (Kd.S_reads' F3.out).2.1 (Kd.C_below (Kd.R_reads' F4.out).2.2 (by repeat (first | with_reducible exact Below.refl _ _ | with_reducible apply below_alloc | with_reducible refine below_set ?_ (Nat.le_refl _) | with_reducible apply pw_below_drewN | with_reducible apply below_drew1))) (Kd.R_reads' F4.out).2.1 He_eq_w0.out).mono ?_
  rintro e w6 ⟨rfl, hb⟩
  clear czBK_aA_0 czBK_aA_1 czBK_aA_2 czBK_w0_0 czBK_w0_1 czBK_w0_2 czBK_x0_0 czBK_x0_1 czBK_x0_2
  have BK_g0 := Aside0.mk (blk_below (g := w5.heap.size) (o := .cells #[.int .i64 r0_0, .slice A7_ s0_1.length c7_, .slice A8_ s0_2.length c8_] 29 (0, 0)) (by (repeat (first | with_reducible refine blk_drewN ?_ _ | with_reducible refine blk_drew ?_)); exact (blk_new _ _)) hb)
  have HG_BK_g0 : Aside0 (w5.heap.size < w6.heap.size) := ⟨blk_lt BK_g0.out⟩
  have HW := Aside0.mk (below_step (w := w5) (by repeat (first | with_reducible exact Below.refl _ _ | with_reducible apply below_alloc | with_reducible refine below_set ?_ (Nat.le_refl _) | with_reducible apply pw_below_drewN | with_reducible apply below_drew1)) hb)
  have HZ6 : Aside0 (w5.heap.size ≤ w6.heap.size) := ⟨HW.out.size⟩
  replace HB := Aside0.mk (below_step HB.out HW.out)
  replace F1 := Aside0.mk (Kd.S_below F1.out HW.out)
  replace F2 := Aside0.mk (Kd.R_below F2.out HW.out)
  replace F3 := Aside0.mk (Kd.S_below F3.out HW.out)
  replace F4 := Aside0.mk (Kd.R_below F4.out HW.out)
  replace F5 := Aside0.mk (Kd.S_below F5.out HW.out)
  replace F6 := Aside0.mk (Kd.R_below F6.out HW.out)
  replace F7 := Aside0.mk (Kd.S_below F7.out HW.out)
  replace F8 := Aside0.mk (Kd.R_below F8.out HW.out)
  replace BK_aA := Aside0.mk (blk_below BK_aA.out HW.out)
  replace BK_w0 := Aside0.mk (blk_below BK_w0.out HW.out)
  replace BK_x0 := Aside0.mk (blk_below BK_x0.out HW.out)
  clear hb HW
  have czBK_aA_0 : w6.cell? ⟨w.heap.size, 0, none⟩ = some (.int .i64 a0_0) := (blk_cell BK_aA.out 0).trans rfl
  have czBK_aA_1 : w6.cell? ⟨w.heap.size, 1, none⟩ = some (.slice A0_1 l0_1.length c0_1) := (blk_cell BK_aA.out 1).trans rfl
  have czBK_aA_2 : w6.cell? ⟨w.heap.size, 2, none⟩ = some (.slice A0_2 l0_2.length c0_2) := (blk_cell BK_aA.out 2).trans rfl
  have czBK_w0_0 : w6.cell? ⟨w3.heap.size, 0, none⟩ = some (.int .i64 r0_0) := (blk_cell BK_w0.out 0).trans rfl
  have czBK_w0_1 : w6.cell? ⟨w3.heap.size, 1, none⟩ = some (.slice A3_ r0_1.length c3_) := (blk_cell BK_w0.out 1).trans rfl
  have czBK_w0_2 : w6.cell? ⟨w3.heap.size, 2, none⟩ = some (.slice A4_ r0_2.length c4_) := (blk_cell BK_w0.out 2).trans rfl
  have czBK_x0_0 : w6.cell? ⟨w4.heap.size, 0, none⟩ = some (.int .i64 a0_0) := (blk_cell BK_x0.out 0).trans rfl
  have czBK_x0_1 : w6.cell? ⟨w4.heap.size, 1, none⟩ = some (.slice A5_ l0_1.length c5_) := (blk_cell BK_x0.out 1).trans rfl
  have czBK_x0_2 : w6.cell? ⟨w4.heap.size, 2, none⟩ = some (.slice A6_ l0_2.length c6_) := (blk_cell BK_x0.out 2).trans rfl
  have czBK_g0_0 : w6.cell? ⟨w5.heap.size, 0, none⟩ = some (.int .i64 r0_0) := (blk_cell BK_g0.out 0).trans rfl
  have czBK_g0_1 : w6.cell? ⟨w5.heap.size, 1, none⟩ = some (.slice A7_ s0_1.length c7_) := (blk_cell BK_g0.out 1).trans rfl
  have czBK_g0_2 : w6.cell? ⟨w5.heap.size, 2, none⟩ = some (.slice A8_ s0_2.length c8_) := (blk_cell BK_g0.out 2).trans rfl
  go_wp2_with fail
  refine start_ (n := 5) (S := fun w' => w'.cell? ⟨w4.heap.size, 0, none⟩ = some (.int .i64 a0_0) ∧ w'.cell? ⟨w4.heap.size, 1, none⟩ = some (.slice A5_ l0_1.length c5_) ∧ w'.cell? ⟨w4.heap.size, 2, none⟩ = some (.slice A6_ l0_2.length c6_) ∧ w'.cell? ⟨w.heap.size, 0, none⟩ = some (.int .i64 a0_0) ∧ w'.cell? ⟨w.heap.size, 1, none⟩ = some (.slice A0_1 l0_1.length c0_1) ∧ w'.cell? ⟨w.heap.size, 2, none⟩ = some (.slice A0_2 l0_2.length c0_2)) (ds := []) #[false, false, false, false, false] (by kernel_rfl) rfl rfl ⟨(blk_cell BK_x0.out 0).trans rfl, (blk_cell BK_x0.out 1).trans rfl, (blk_cell BK_x0.out 2).trans rfl, (blk_cell BK_aA.out 0).trans rfl, (blk_cell BK_aA.out 1).trans rfl, (blk_cell BK_aA.out 2).trans rfl⟩ (fun hHeld => ?_)
  refine Own.anew_ (wN := w6) (by repeat (first | with_reducible exact Below.refl _ _ | with_reducible apply below_alloc | with_reducible refine below_set ?_ (Nat.le_refl _) | with_reducible apply pw_below_drewN | with_reducible apply below_drew1)) hHeld (fun w7 hb hHeld => ?_)
  clear czBK_aA_0 czBK_aA_1 czBK_aA_2 czBK_w0_0 czBK_w0_1 czBK_w0_2 czBK_x0_0 czBK_x0_1 czBK_x0_2 czBK_g0_0 czBK_g0_1 czBK_g0_2
  have HW := Aside0.mk hb
  have HZ7 : Aside0 (w6.heap.size ≤ w7.heap.size) := ⟨HW.out.size⟩
  replace HB := Aside0.mk (below_step HB.out HW.out)
  replace F1 := Aside0.mk (Kd.S_below F1.out HW.out)
  replace F2 := Aside0.mk (Kd.R_below F2.out HW.out)
  replace F3 := Aside0.mk (Kd.S_below F3.out HW.out)
  replace F4 := Aside0.mk (Kd.R_below F4.out HW.out)
  replace F5 := Aside0.mk (Kd.S_below F5.out HW.out)
  replace F6 := Aside0.mk (Kd.R_below F6.out HW.out)
  replace F7 := Aside0.mk (Kd.S_below F7.out HW.out)
  replace F8 := Aside0.mk (Kd.R_below F8.out HW.out)
  replace BK_aA := Aside0.mk (blk_below BK_aA.out HW.out)
  replace BK_w0 := Aside0.mk (blk_below BK_w0.out HW.out)
  replace BK_x0 := Aside0.mk (blk_below BK_x0.out HW.out)
  replace BK_g0 := Aside0.mk (blk_below BK_g0.out HW.out)
  clear hb HW
  refine take_ (i := 0) (N := some 41) (v := ?_) (a' := ?_) #[true, false, false, false, false] rfl rfl (by kernel_rfl) (fun _ _ _ h => h) (Or.inl ⟨by rfl, ?_⟩) hHeld ?_ ?_
  rotate_left
  · rintro w' ⟨s0_, s1_, s2_, s3_, s4_, s5_⟩
    go_simp
    with_reducible rfl
  rotate_left
  · simp only [Act.put, List.setIfInBounds_toArray, List.set_cons_zero, List.set_cons_succ, i64_w, i32_w]
    rfl
  refine take_ (i := 1) (N := some 42) (v := ?_) (a' := ?_) #[true, true, false, false, false] rfl rfl (by kernel_rfl) (fun _ _ _ h => h) (Or.inl ⟨by rfl, ?_⟩) hHeld ?_ ?_
  rotate_left
  · rintro w' ⟨s0_, s1_, s2_, s3_, s4_, s5_⟩
    go_simp
    with_reducible rfl
  rotate_left
  · simp only [Act.put, List.setIfInBounds_toArray, List.set_cons_zero, List.set_cons_succ, i64_w, i32_w]
    rfl
  refine one_ (i := 2) (N := some 43) #[true, true, true, false, false] rfl rfl (by kernel_rfl) (by decide) (fun K hK => ?_)
  refine goes_ Try.func14 (by kernel_rfl) rfl #[.agg #[.int .i64 a0_0, .slice A0_1 l0_1.length c0_1, .slice A0_2 l0_2.length c0_2]] (by rfl) rfl rfl (by (try simp only [List.map_toArray, List.map_cons, List.map_nil]); first | done | rfl | (simp only [List.length_drop, List.length_take]; rfl)) ?_
  with_reducible refine (laws_toAutomaton.calls k _ _ _ _ _ _ _ _ _ _ _ (Kd.C_below HR0_1.out (below_step HB.out (by repeat (first | with_reducible exact Below.refl _ _ | with_reducible apply below_alloc | with_reducible refine below_set ?_ (Nat.le_refl _) | with_reducible apply pw_below_drewN | with_reducible apply below_drew1)))) HC0_1.out (Kd.C_below HR0_2.out (below_step HB.out (by repeat (first | with_reducible exact Below.refl _ _ | with_reducible apply below_alloc | with_reducible refine below_set ?_ (Nat.le_refl _) | with_reducible apply pw_below_drewN | with_reducible apply below_drew1)))) HC0_2.out He_to_aA.out).mono ?_
  rintro e w8 ⟨vq7_0, vq7_1, rfl, hf9, hf10, hb⟩
  refine ⟨_, rfl, ?_⟩
  have HN := Aside0.mk HB.out.size
  have HW := Aside0.mk (below_step (w := w7) (by repeat (first | with_reducible exact Below.refl _ _ | with_reducible apply below_alloc | with_reducible refine below_set ?_ (Nat.le_refl _) | with_reducible apply pw_below_drewN | with_reducible apply below_drew1)) hb)
  have HZ8 : Aside0 (w7.heap.size ≤ w8.heap.size) := ⟨HW.out.size⟩
  replace HB := Aside0.mk (below_step HB.out HW.out)
  replace F1 := Aside0.mk (Kd.S_below F1.out HW.out)
  replace F2 := Aside0.mk (Kd.R_below F2.out HW.out)
  replace F3 := Aside0.mk (Kd.S_below F3.out HW.out)
  replace F4 := Aside0.mk (Kd.R_below F4.out HW.out)
  replace F5 := Aside0.mk (Kd.S_below F5.out HW.out)
  replace F6 := Aside0.mk (Kd.R_below F6.out HW.out)
  replace F7 := Aside0.mk (Kd.S_below F7.out HW.out)
  replace F8 := Aside0.mk (Kd.R_below F8.out HW.out)
  replace BK_aA := Aside0.mk (blk_below BK_aA.out HW.out)
  replace BK_w0 := Aside0.mk (blk_below BK_w0.out HW.out)
  replace BK_x0 := Aside0.mk (blk_below BK_x0.out HW.out)
  replace BK_g0 := Aside0.mk (blk_below BK_g0.out HW.out)
  obtain ⟨lo9_, F9, HLO9⟩ := Own.S_iv (wN := w7) hf9 HN.out (by repeat (first | with_reducible exact Below.refl _ _ | with_reducible apply below_alloc | with_reducible refine below_set ?_ (Nat.le_refl _) | with_reducible apply pw_below_drewN | with_reducible apply below_drew1)) hb
  obtain ⟨lo10_, F10, HLO10⟩ := Own.R_iv (wN := w7) rfl hf10 HN.out (by repeat (first | with_reducible exact Below.refl _ _ | with_reducible apply below_alloc | with_reducible refine below_set ?_ (Nat.le_refl _) | with_reducible apply pw_below_drewN | with_reducible apply below_drew1)) hb
  obtain ⟨A9_, c9_, e9_⟩ := Kd.S_slice F9.out
  subst e9_
  obtain ⟨A10_, c10_, e10_⟩ := Kd.R_slice F10.out
  subst e10_
  clear hb HW HN hf9 hf10
  refine hK.out _ _ ⟨(blk_cell BK_x0.out 0).trans rfl, (blk_cell BK_x0.out 1).trans rfl, (blk_cell BK_x0.out 2).trans rfl, (blk_cell BK_aA.out 0).trans rfl, (blk_cell BK_aA.out 1).trans rfl, (blk_cell BK_aA.out 2).trans rfl⟩ (fun hHeld => ?_)
  clear hK K
  refine norm_ (a' := ?_) ?_ ?_
  rotate_left
  · show Act.put _ (some 43) _ = _
    simp only [Act.put, List.setIfInBounds_toArray, List.set_cons_zero, List.set_cons_succ, i64_w, i32_w]
    rfl
  refine one_ (i := 3) (N := some 44) #[true, true, true, true, false] rfl rfl (by kernel_rfl) (by decide) (fun K hK => ?_)
  refine goes_ Try.func17 (by kernel_rfl) rfl #[.agg #[.int .i64 a0_0, .slice A5_ l0_1.length c5_, .slice A6_ l0_2.length c6_], .agg #[.int .i64 a0_0, .slice A9_ l0_1.length c9_, .slice A10_ l0_2.length c10_]] (by rfl) rfl rfl (by (try simp only [List.map_toArray, List.map_cons, List.map_nil]); first | done | rfl | (simp only [List.length_drop, List.length_take]; rfl)) ?_
  with_reducible refine (laws_eqAutomaton.calls k _ _ _ _ _ _ _ _ _ _ _ _ _ _ _ _ (Kd.C_below (Kd.S_reads' F5.out).2.2 (by repeat (first | with_reducible exact Below.refl _ _ | with_reducible apply below_alloc | with_reducible refine below_set ?_ (Nat.le_refl _) | with_reducible apply pw_below_drewN | with_reducible apply below_drew1))) (Kd.S_reads' F5.out).2.1 (Kd.C_below (Kd.R_reads' F6.out).2.2 (by repeat (first | with_reducible exact Below.refl _ _ | with_reducible apply below_alloc | with_reducible refine below_set ?_ (Nat.le_refl _) | with_reducible apply pw_below_drewN | with_reducible apply below_drew1))) (Kd.R_reads' F6.out).2.1 (Kd.C_below (Kd.S_reads' F9.out).2.2 (by repeat (first | with_reducible exact Below.refl _ _ | with_reducible apply below_alloc | with_reducible refine below_set ?_ (Nat.le_refl _) | with_reducible apply pw_below_drewN | with_reducible apply below_drew1))) (Kd.S_reads' F9.out).2.1 (Kd.C_below (Kd.R_reads' F10.out).2.2 (by repeat (first | with_reducible exact Below.refl _ _ | with_reducible apply below_alloc | with_reducible refine below_set ?_ (Nat.le_refl _) | with_reducible apply pw_below_drewN | with_reducible apply below_drew1))) (Kd.R_reads' F10.out).2.1 He_eq_x0.out).mono ?_
  rintro e w9 ⟨rfl, hb⟩
  refine ⟨_, rfl, ?_⟩
  have HW := Aside0.mk (below_step (w := w8) (by repeat (first | with_reducible exact Below.refl _ _ | with_reducible apply below_alloc | with_reducible refine below_set ?_ (Nat.le_refl _) | with_reducible apply pw_below_drewN | with_reducible apply below_drew1)) hb)
  have HZ9 : Aside0 (w8.heap.size ≤ w9.heap.size) := ⟨HW.out.size⟩
  replace HB := Aside0.mk (below_step HB.out HW.out)
  replace F1 := Aside0.mk (Kd.S_below F1.out HW.out)
  replace F2 := Aside0.mk (Kd.R_below F2.out HW.out)
  replace F3 := Aside0.mk (Kd.S_below F3.out HW.out)
  replace F4 := Aside0.mk (Kd.R_below F4.out HW.out)
  replace F5 := Aside0.mk (Kd.S_below F5.out HW.out)
  replace F6 := Aside0.mk (Kd.R_below F6.out HW.out)
  replace F7 := Aside0.mk (Kd.S_below F7.out HW.out)
  replace F8 := Aside0.mk (Kd.R_below F8.out HW.out)
  replace BK_aA := Aside0.mk (blk_below BK_aA.out HW.out)
  replace BK_w0 := Aside0.mk (blk_below BK_w0.out HW.out)
  replace BK_x0 := Aside0.mk (blk_below BK_x0.out HW.out)
  replace BK_g0 := Aside0.mk (blk_below BK_g0.out HW.out)
  clear hb HW
  refine hK.out _ _ ⟨(blk_cell BK_x0.out 0).trans rfl, (blk_cell BK_x0.out 1).trans rfl, (blk_cell BK_x0.out 2).trans rfl, (blk_cell BK_aA.out 0).trans rfl, (blk_cell BK_aA.out 1).trans rfl, (blk_cell BK_aA.out 2).trans rfl⟩ (fun hHeld => ?_)
  clear hK K
  refine norm_ (a' := ?_) ?_ ?_
  rotate_left
  · show Act.put _ (some 44) _ = _
    simp only [Act.put, List.setIfInBounds_toArray, List.set_cons_zero, List.set_cons_succ, i64_w, i32_w]
    rfl
  refine pure_ (i := 4) (N := some 45) (v := ?_) (a' := ?_) #[true, true, true, true, true] rfl rfl (by kernel_rfl) (fun _ _ _ h => h) (Or.inl ⟨by rfl, ?_⟩) ?_ ?_
  rotate_left
  · intro w'
    go_simp
    with_reducible rfl
  rotate_left
  · simp only [Act.put, List.setIfInBounds_toArray, List.set_cons_zero, List.set_cons_succ, i64_w, i32_w]
    rfl
  refine done_ (by kernel_rfl) ?_
  clear hHeld
  have czBK_aA_0 : w9.cell? ⟨w.heap.size, 0, none⟩ = some (.int .i64 a0_0) := (blk_cell BK_aA.out 0).trans rfl
  have czBK_aA_1 : w9.cell? ⟨w.heap.size, 1, none⟩ = some (.slice A0_1 l0_1.length c0_1) := (blk_cell BK_aA.out 1).trans rfl
  have czBK_aA_2 : w9.cell? ⟨w.heap.size, 2, none⟩ = some (.slice A0_2 l0_2.length c0_2) := (blk_cell BK_aA.out 2).trans rfl
  have czBK_w0_0 : w9.cell? ⟨w3.heap.size, 0, none⟩ = some (.int .i64 r0_0) := (blk_cell BK_w0.out 0).trans rfl
  have czBK_w0_1 : w9.cell? ⟨w3.heap.size, 1, none⟩ = some (.slice A3_ r0_1.length c3_) := (blk_cell BK_w0.out 1).trans rfl
  have czBK_w0_2 : w9.cell? ⟨w3.heap.size, 2, none⟩ = some (.slice A4_ r0_2.length c4_) := (blk_cell BK_w0.out 2).trans rfl
  have czBK_x0_0 : w9.cell? ⟨w4.heap.size, 0, none⟩ = some (.int .i64 a0_0) := (blk_cell BK_x0.out 0).trans rfl
  have czBK_x0_1 : w9.cell? ⟨w4.heap.size, 1, none⟩ = some (.slice A5_ l0_1.length c5_) := (blk_cell BK_x0.out 1).trans rfl
  have czBK_x0_2 : w9.cell? ⟨w4.heap.size, 2, none⟩ = some (.slice A6_ l0_2.length c6_) := (blk_cell BK_x0.out 2).trans rfl
  have czBK_g0_0 : w9.cell? ⟨w5.heap.size, 0, none⟩ = some (.int .i64 r0_0) := (blk_cell BK_g0.out 0).trans rfl
  have czBK_g0_1 : w9.cell? ⟨w5.heap.size, 1, none⟩ = some (.slice A7_ s0_1.length c7_) := (blk_cell BK_g0.out 1).trans rfl
  have czBK_g0_2 : w9.cell? ⟨w5.heap.size, 2, none⟩ = some (.slice A8_ s0_2.length c8_) := (blk_cell BK_g0.out 2).trans rfl
  go_wp2_with fail
  refine (laws_markAutomaton.calls k _ _ _ _ _ _ _ _ _ _ _ w _ (below_step HB.out (by repeat (first | with_reducible exact Below.refl _ _ | with_reducible apply below_alloc | with_reducible refine below_set ?_ (Nat.le_refl _) | with_reducible apply pw_below_drewN | with_reducible apply below_drew1))) (Kd.S_below F5.out (by repeat (first | with_reducible exact Below.refl _ _ | with_reducible apply below_alloc | with_reducible refine below_set ?_ (Nat.le_refl _) | with_reducible apply pw_below_drewN | with_reducible apply below_drew1))) (Kd.R_below F6.out (by repeat (first | with_reducible exact Below.refl _ _ | with_reducible apply below_alloc | with_reducible refine below_set ?_ (Nat.le_refl _) | with_reducible apply pw_below_drewN | with_reducible apply below_drew1))) (fun k_ h1 h2 => h1.1 h2.1) He_mark_x0.out).mono ?_
  rintro e w10 ⟨rfl, hf_F5, hf_F6, hb, hk⟩
  clear czBK_aA_0 czBK_aA_1 czBK_aA_2 czBK_w0_0 czBK_w0_1 czBK_w0_2 czBK_x0_0 czBK_x0_1 czBK_x0_2 czBK_g0_0 czBK_g0_1 czBK_g0_2
  have HW := Aside0.mk ((Kept.of_below (w := w9) (by repeat (first | with_reducible exact Below.refl _ _ | with_reducible apply below_alloc | with_reducible refine below_set ?_ (Nat.le_refl _) | with_reducible apply pw_below_drewN | with_reducible apply below_drew1)) _).then_ hk (fun _ h_ => .inl h_))
  have HZ10 : Aside0 (w9.heap.size ≤ w10.heap.size) := ⟨HW.out.1⟩
  replace HB := Aside0.mk hb
  replace F1 := Aside0.mk (Kd.S_kept F1.out HW.out (fun k_ h1 h2 => by have z1_ := HZ1.out; have z2_ := HZ2.out; have z3_ := HZ3.out; have z4_ := HZ4.out; have z5_ := HZ5.out; have z6_ := HZ6.out; have z7_ := HZ7.out; have z8_ := HZ8.out; have z9_ := HZ9.out; have zg0_ := HG_BK_aA.out; have zg1_ := HG_BK_w0.out; have zg2_ := HG_BK_x0.out; have zg3_ := HG_BK_g0.out; have zl0_ := HLO1.out; have zl1_ := HLO2.out; have zl2_ := HLO3.out; have zl3_ := HLO4.out; have zl4_ := HLO5.out; have zl5_ := HLO6.out; have zl6_ := HLO7.out; have zl7_ := HLO8.out; have zl8_ := HLO9.out; have zl9_ := HLO10.out; omega))
  replace F2 := Aside0.mk (Kd.R_kept F2.out HW.out (fun k_ h1 h2 => by have z1_ := HZ1.out; have z2_ := HZ2.out; have z3_ := HZ3.out; have z4_ := HZ4.out; have z5_ := HZ5.out; have z6_ := HZ6.out; have z7_ := HZ7.out; have z8_ := HZ8.out; have z9_ := HZ9.out; have zg0_ := HG_BK_aA.out; have zg1_ := HG_BK_w0.out; have zg2_ := HG_BK_x0.out; have zg3_ := HG_BK_g0.out; have zl0_ := HLO1.out; have zl1_ := HLO2.out; have zl2_ := HLO3.out; have zl3_ := HLO4.out; have zl4_ := HLO5.out; have zl5_ := HLO6.out; have zl6_ := HLO7.out; have zl7_ := HLO8.out; have zl8_ := HLO9.out; have zl9_ := HLO10.out; omega))
  replace F3 := Aside0.mk (Kd.S_kept F3.out HW.out (fun k_ h1 h2 => by have z1_ := HZ1.out; have z2_ := HZ2.out; have z3_ := HZ3.out; have z4_ := HZ4.out; have z5_ := HZ5.out; have z6_ := HZ6.out; have z7_ := HZ7.out; have z8_ := HZ8.out; have z9_ := HZ9.out; have zg0_ := HG_BK_aA.out; have zg1_ := HG_BK_w0.out; have zg2_ := HG_BK_x0.out; have zg3_ := HG_BK_g0.out; have zl0_ := HLO1.out; have zl1_ := HLO2.out; have zl2_ := HLO3.out; have zl3_ := HLO4.out; have zl4_ := HLO5.out; have zl5_ := HLO6.out; have zl6_ := HLO7.out; have zl7_ := HLO8.out; have zl8_ := HLO9.out; have zl9_ := HLO10.out; omega))
  replace F4 := Aside0.mk (Kd.R_kept F4.out HW.out (fun k_ h1 h2 => by have z1_ := HZ1.out; have z2_ := HZ2.out; have z3_ := HZ3.out; have z4_ := HZ4.out; have z5_ := HZ5.out; have z6_ := HZ6.out; have z7_ := HZ7.out; have z8_ := HZ8.out; have z9_ := HZ9.out; have zg0_ := HG_BK_aA.out; have zg1_ := HG_BK_w0.out; have zg2_ := HG_BK_x0.out; have zg3_ := HG_BK_g0.out; have zl0_ := HLO1.out; have zl1_ := HLO2.out; have zl2_ := HLO3.out; have zl3_ := HLO4.out; have zl4_ := HLO5.out; have zl5_ := HLO6.out; have zl6_ := HLO7.out; have zl7_ := HLO8.out; have zl8_ := HLO9.out; have zl9_ := HLO10.out; omega))
  replace F7 := Aside0.mk (Kd.S_kept F7.out HW.out (fun k_ h1 h2 => by have z1_ := HZ1.out; have z2_ := HZ2.out; have z3_ := HZ3.out; have z4_ := HZ4.out; have z5_ := HZ5.out; have z6_ := HZ6.out; have z7_ := HZ7.out; have z8_ := HZ8.out; have z9_ := HZ9.out; have zg0_ := HG_BK_aA.out; have zg1_ := HG_BK_w0.out; have zg2_ := HG_BK_x0.out; have zg3_ := HG_BK_g0.out; have zl0_ := HLO1.out; have zl1_ := HLO2.out; have zl2_ := HLO3.out; have zl3_ := HLO4.out; have zl4_ := HLO5.out; have zl5_ := HLO6.out; have zl6_ := HLO7.out; have zl7_ := HLO8.out; have zl8_ := HLO9.out; have zl9_ := HLO10.out; omega))
  replace F8 := Aside0.mk (Kd.R_kept F8.out HW.out (fun k_ h1 h2 => by have z1_ := HZ1.out; have z2_ := HZ2.out; have z3_ := HZ3.out; have z4_ := HZ4.out; have z5_ := HZ5.out; have z6_ := HZ6.out; have z7_ := HZ7.out; have z8_ := HZ8.out; have z9_ := HZ9.out; have zg0_ := HG_BK_aA.out; have zg1_ := HG_BK_w0.out; have zg2_ := HG_BK_x0.out; have zg3_ := HG_BK_g0.out; have zl0_ := HLO1.out; have zl1_ := HLO2.out; have zl2_ := HLO3.out; have zl3_ := HLO4.out; have zl4_ := HLO5.out; have zl5_ := HLO6.out; have zl6_ := HLO7.out; have zl7_ := HLO8.out; have zl8_ := HLO9.out; have zl9_ := HLO10.out; omega))
  replace BK_aA := Aside0.mk (blk_kept BK_aA.out HW.out (fun h2 => by have z1_ := HZ1.out; have z2_ := HZ2.out; have z3_ := HZ3.out; have z4_ := HZ4.out; have z5_ := HZ5.out; have z6_ := HZ6.out; have z7_ := HZ7.out; have z8_ := HZ8.out; have z9_ := HZ9.out; have zg0_ := HG_BK_aA.out; have zg1_ := HG_BK_w0.out; have zg2_ := HG_BK_x0.out; have zg3_ := HG_BK_g0.out; have zl0_ := HLO1.out; have zl1_ := HLO2.out; have zl2_ := HLO3.out; have zl3_ := HLO4.out; have zl4_ := HLO5.out; have zl5_ := HLO6.out; have zl6_ := HLO7.out; have zl7_ := HLO8.out; have zl8_ := HLO9.out; have zl9_ := HLO10.out; omega))
  replace BK_w0 := Aside0.mk (blk_kept BK_w0.out HW.out (fun h2 => by have z1_ := HZ1.out; have z2_ := HZ2.out; have z3_ := HZ3.out; have z4_ := HZ4.out; have z5_ := HZ5.out; have z6_ := HZ6.out; have z7_ := HZ7.out; have z8_ := HZ8.out; have z9_ := HZ9.out; have zg0_ := HG_BK_aA.out; have zg1_ := HG_BK_w0.out; have zg2_ := HG_BK_x0.out; have zg3_ := HG_BK_g0.out; have zl0_ := HLO1.out; have zl1_ := HLO2.out; have zl2_ := HLO3.out; have zl3_ := HLO4.out; have zl4_ := HLO5.out; have zl5_ := HLO6.out; have zl6_ := HLO7.out; have zl7_ := HLO8.out; have zl8_ := HLO9.out; have zl9_ := HLO10.out; omega))
  replace BK_x0 := Aside0.mk (blk_kept BK_x0.out HW.out (fun h2 => by have z1_ := HZ1.out; have z2_ := HZ2.out; have z3_ := HZ3.out; have z4_ := HZ4.out; have z5_ := HZ5.out; have z6_ := HZ6.out; have z7_ := HZ7.out; have z8_ := HZ8.out; have z9_ := HZ9.out; have zg0_ := HG_BK_aA.out; have zg1_ := HG_BK_w0.out; have zg2_ := HG_BK_x0.out; have zg3_ := HG_BK_g0.out; have zl0_ := HLO1.out; have zl1_ := HLO2.out; have zl2_ := HLO3.out; have zl3_ := HLO4.out; have zl4_ := HLO5.out; have zl5_ := HLO6.out; have zl6_ := HLO7.out; have zl7_ := HLO8.out; have zl8_ := HLO9.out; have zl9_ := HLO10.out; omega))
  replace BK_g0 := Aside0.mk (blk_kept BK_g0.out HW.out (fun h2 => by have z1_ := HZ1.out; have z2_ := HZ2.out; have z3_ := HZ3.out; have z4_ := HZ4.out; have z5_ := HZ5.out; have z6_ := HZ6.out; have z7_ := HZ7.out; have z8_ := HZ8.out; have z9_ := HZ9.out; have zg0_ := HG_BK_aA.out; have zg1_ := HG_BK_w0.out; have zg2_ := HG_BK_x0.out; have zg3_ := HG_BK_g0.out; have zl0_ := HLO1.out; have zl1_ := HLO2.out; have zl2_ := HLO3.out; have zl3_ := HLO4.out; have zl4_ := HLO5.out; have zl5_ := HLO6.out; have zl6_ := HLO7.out; have zl7_ := HLO8.out; have zl8_ := HLO9.out; have zl9_ := HLO10.out; omega))
  replace F5 := Aside0.mk hf_F5
  have HQ := Aside0.mk (Kd.S_reads' F5.out).1
  rw [HQ.out] at F5
  rw [HQ.out] at BK_x0
  clear HQ
  replace F6 := Aside0.mk (Own.R_ok hf_F6 F6.out.1)
  have HQ := Aside0.mk (Kd.R_reads' F6.out).1
  rw [HQ.out] at F6
  rw [HQ.out] at BK_x0
  clear HQ
  clear hb hk HW hf_F5 hf_F6
  have czBK_aA_0 : w10.cell? ⟨w.heap.size, 0, none⟩ = some (.int .i64 a0_0) := (blk_cell BK_aA.out 0).trans rfl
  have czBK_aA_1 : w10.cell? ⟨w.heap.size, 1, none⟩ = some (.slice A0_1 l0_1.length c0_1) := (blk_cell BK_aA.out 1).trans rfl
  have czBK_aA_2 : w10.cell? ⟨w.heap.size, 2, none⟩ = some (.slice A0_2 l0_2.length c0_2) := (blk_cell BK_aA.out 2).trans rfl
  have czBK_w0_0 : w10.cell? ⟨w3.heap.size, 0, none⟩ = some (.int .i64 r0_0) := (blk_cell BK_w0.out 0).trans rfl
  have czBK_w0_1 : w10.cell? ⟨w3.heap.size, 1, none⟩ = some (.slice A3_ r0_1.length c3_) := (blk_cell BK_w0.out 1).trans rfl
  have czBK_w0_2 : w10.cell? ⟨w3.heap.size, 2, none⟩ = some (.slice A4_ r0_2.length c4_) := (blk_cell BK_w0.out 2).trans rfl
  have czBK_x0_0 : w10.cell? ⟨w4.heap.size, 0, none⟩ = some (.int .i64 a0_0) := (blk_cell BK_x0.out 0).trans rfl
  have czBK_x0_1 : w10.cell? ⟨w4.heap.size, 1, none⟩ = some (.slice A5_ nx0_1.length c5_) := (blk_cell BK_x0.out 1).trans rfl
  have czBK_x0_2 : w10.cell? ⟨w4.heap.size, 2, none⟩ = some (.slice A6_ nx0_2.length c6_) := (blk_cell BK_x0.out 2).trans rfl
  have czBK_g0_0 : w10.cell? ⟨w5.heap.size, 0, none⟩ = some (.int .i64 r0_0) := (blk_cell BK_g0.out 0).trans rfl
  have czBK_g0_1 : w10.cell? ⟨w5.heap.size, 1, none⟩ = some (.slice A7_ s0_1.length c7_) := (blk_cell BK_g0.out 1).trans rfl
  have czBK_g0_2 : w10.cell? ⟨w5.heap.size, 2, none⟩ = some (.slice A8_ s0_2.length c8_) := (blk_cell BK_g0.out 2).trans rfl
  go_wp2_with fail
  refine (laws_eqAutomaton.calls k _ _ _ _ _ _ _ _ _ _ _ _ _ _ _ _ (Kd.C_below (Kd.S_reads' F7.out).2.2 (by repeat (first | with_reducible exact Below.refl _ _ | with_reducible apply below_alloc | with_reducible refine below_set ?_ (Nat.le_refl _) | with_reducible apply pw_below_drewN | with_reducible apply below_drew1))) (Kd.S_reads' F7.out).2.1 (Kd.C_below (Kd.R_reads' F8.out).2.2 (by repeat (first | with_reducible exact Below.refl _ _ | with_reducible apply below_alloc | with_reducible refine below_set ?_ (Nat.le_refl _) | with_reducible apply pw_below_drewN | with_reducible apply below_drew1))) (Kd.R_reads' F8.out).2.1 (Kd.C_below (Kd.S_reads' F3.out).2.2 (by repeat (first | with_reducible exact Below.refl _ _ | with_reducible apply below_alloc | with_reducible refine below_set ?_ (Nat.le_refl _) | with_reducible apply pw_below_drewN | with_reducible apply below_drew1))) (Kd.S_reads' F3.out).2.1 (Kd.C_below (Kd.R_reads' F4.out).2.2 (by repeat (first | with_reducible exact Below.refl _ _ | with_reducible apply below_alloc | with_reducible refine below_set ?_ (Nat.le_refl _) | with_reducible apply pw_below_drewN | with_reducible apply below_drew1))) (Kd.R_reads' F4.out).2.1 He_eq_w0.out).mono ?_
  rintro e w11 ⟨rfl, hb⟩
  clear czBK_aA_0 czBK_aA_1 czBK_aA_2 czBK_w0_0 czBK_w0_1 czBK_w0_2 czBK_x0_0 czBK_x0_1 czBK_x0_2 czBK_g0_0 czBK_g0_1 czBK_g0_2
  have HW := Aside0.mk (below_step (w := w10) (by repeat (first | with_reducible exact Below.refl _ _ | with_reducible apply below_alloc | with_reducible refine below_set ?_ (Nat.le_refl _) | with_reducible apply pw_below_drewN | with_reducible apply below_drew1)) hb)
  have HZ11 : Aside0 (w10.heap.size ≤ w11.heap.size) := ⟨HW.out.size⟩
  replace HB := Aside0.mk (below_step HB.out HW.out)
  replace F1 := Aside0.mk (Kd.S_below F1.out HW.out)
  replace F2 := Aside0.mk (Kd.R_below F2.out HW.out)
  replace F3 := Aside0.mk (Kd.S_below F3.out HW.out)
  replace F4 := Aside0.mk (Kd.R_below F4.out HW.out)
  replace F5 := Aside0.mk (Kd.S_below F5.out HW.out)
  replace F6 := Aside0.mk (Kd.R_below F6.out HW.out)
  replace F7 := Aside0.mk (Kd.S_below F7.out HW.out)
  replace F8 := Aside0.mk (Kd.R_below F8.out HW.out)
  replace BK_aA := Aside0.mk (blk_below BK_aA.out HW.out)
  replace BK_w0 := Aside0.mk (blk_below BK_w0.out HW.out)
  replace BK_x0 := Aside0.mk (blk_below BK_x0.out HW.out)
  replace BK_g0 := Aside0.mk (blk_below BK_g0.out HW.out)
  clear hb HW
  have czBK_aA_0 : w11.cell? ⟨w.heap.size, 0, none⟩ = some (.int .i64 a0_0) := (blk_cell BK_aA.out 0).trans rfl
  have czBK_aA_1 : w11.cell? ⟨w.heap.size, 1, none⟩ = some (.slice A0_1 l0_1.length c0_1) := (blk_cell BK_aA.out 1).trans rfl
  have czBK_aA_2 : w11.cell? ⟨w.heap.size, 2, none⟩ = some (.slice A0_2 l0_2.length c0_2) := (blk_cell BK_aA.out 2).trans rfl
  have czBK_w0_0 : w11.cell? ⟨w3.heap.size, 0, none⟩ = some (.int .i64 r0_0) := (blk_cell BK_w0.out 0).trans rfl
  have czBK_w0_1 : w11.cell? ⟨w3.heap.size, 1, none⟩ = some (.slice A3_ r0_1.length c3_) := (blk_cell BK_w0.out 1).trans rfl
  have czBK_w0_2 : w11.cell? ⟨w3.heap.size, 2, none⟩ = some (.slice A4_ r0_2.length c4_) := (blk_cell BK_w0.out 2).trans rfl
  have czBK_x0_0 : w11.cell? ⟨w4.heap.size, 0, none⟩ = some (.int .i64 a0_0) := (blk_cell BK_x0.out 0).trans rfl
  have czBK_x0_1 : w11.cell? ⟨w4.heap.size, 1, none⟩ = some (.slice A5_ nx0_1.length c5_) := (blk_cell BK_x0.out 1).trans rfl
  have czBK_x0_2 : w11.cell? ⟨w4.heap.size, 2, none⟩ = some (.slice A6_ nx0_2.length c6_) := (blk_cell BK_x0.out 2).trans rfl
  have czBK_g0_0 : w11.cell? ⟨w5.heap.size, 0, none⟩ = some (.int .i64 r0_0) := (blk_cell BK_g0.out 0).trans rfl
  have czBK_g0_1 : w11.cell? ⟨w5.heap.size, 1, none⟩ = some (.slice A7_ s0_1.length c7_) := (blk_cell BK_g0.out 1).trans rfl
  have czBK_g0_2 : w11.cell? ⟨w5.heap.size, 2, none⟩ = some (.slice A8_ s0_2.length c8_) := (blk_cell BK_g0.out 2).trans rfl
  go_wp2_with fail
  refine (laws_markAutomaton.calls k _ _ _ _ _ _ _ _ _ _ _ w _ (below_step HB.out (by repeat (first | with_reducible exact Below.refl _ _ | with_reducible apply below_alloc | with_reducible refine below_set ?_ (Nat.le_refl _) | with_reducible apply pw_below_drewN | with_reducible apply below_drew1))) (Kd.S_below F7.out (by repeat (first | with_reducible exact Below.refl _ _ | with_reducible apply below_alloc | with_reducible refine below_set ?_ (Nat.le_refl _) | with_reducible apply pw_below_drewN | with_reducible apply below_drew1))) (Kd.R_below F8.out (by repeat (first | with_reducible exact Below.refl _ _ | with_reducible apply below_alloc | with_reducible refine below_set ?_ (Nat.le_refl _) | with_reducible apply pw_below_drewN | with_reducible apply below_drew1))) (fun k_ h1 h2 => h1.1 h2.1) He_mark_g0.out).mono ?_
  rintro e w12 ⟨rfl, hf_F7, hf_F8, hb, hk⟩
  clear czBK_aA_0 czBK_aA_1 czBK_aA_2 czBK_w0_0 czBK_w0_1 czBK_w0_2 czBK_x0_0 czBK_x0_1 czBK_x0_2 czBK_g0_0 czBK_g0_1 czBK_g0_2
  have HW := Aside0.mk ((Kept.of_below (w := w11) (by repeat (first | with_reducible exact Below.refl _ _ | with_reducible apply below_alloc | with_reducible refine below_set ?_ (Nat.le_refl _) | with_reducible apply pw_below_drewN | with_reducible apply below_drew1)) _).then_ hk (fun _ h_ => .inl h_))
  have HZ12 : Aside0 (w11.heap.size ≤ w12.heap.size) := ⟨HW.out.1⟩
  replace HB := Aside0.mk hb
  replace F1 := Aside0.mk (Kd.S_kept F1.out HW.out (fun k_ h1 h2 => by have z1_ := HZ1.out; have z2_ := HZ2.out; have z3_ := HZ3.out; have z4_ := HZ4.out; have z5_ := HZ5.out; have z6_ := HZ6.out; have z7_ := HZ7.out; have z8_ := HZ8.out; have z9_ := HZ9.out; have z10_ := HZ10.out; have z11_ := HZ11.out; have zg0_ := HG_BK_aA.out; have zg1_ := HG_BK_w0.out; have zg2_ := HG_BK_x0.out; have zg3_ := HG_BK_g0.out; have zl0_ := HLO1.out; have zl1_ := HLO2.out; have zl2_ := HLO3.out; have zl3_ := HLO4.out; have zl4_ := HLO5.out; have zl5_ := HLO6.out; have zl6_ := HLO7.out; have zl7_ := HLO8.out; have zl8_ := HLO9.out; have zl9_ := HLO10.out; omega))
  replace F2 := Aside0.mk (Kd.R_kept F2.out HW.out (fun k_ h1 h2 => by have z1_ := HZ1.out; have z2_ := HZ2.out; have z3_ := HZ3.out; have z4_ := HZ4.out; have z5_ := HZ5.out; have z6_ := HZ6.out; have z7_ := HZ7.out; have z8_ := HZ8.out; have z9_ := HZ9.out; have z10_ := HZ10.out; have z11_ := HZ11.out; have zg0_ := HG_BK_aA.out; have zg1_ := HG_BK_w0.out; have zg2_ := HG_BK_x0.out; have zg3_ := HG_BK_g0.out; have zl0_ := HLO1.out; have zl1_ := HLO2.out; have zl2_ := HLO3.out; have zl3_ := HLO4.out; have zl4_ := HLO5.out; have zl5_ := HLO6.out; have zl6_ := HLO7.out; have zl7_ := HLO8.out; have zl8_ := HLO9.out; have zl9_ := HLO10.out; omega))
  replace F3 := Aside0.mk (Kd.S_kept F3.out HW.out (fun k_ h1 h2 => by have z1_ := HZ1.out; have z2_ := HZ2.out; have z3_ := HZ3.out; have z4_ := HZ4.out; have z5_ := HZ5.out; have z6_ := HZ6.out; have z7_ := HZ7.out; have z8_ := HZ8.out; have z9_ := HZ9.out; have z10_ := HZ10.out; have z11_ := HZ11.out; have zg0_ := HG_BK_aA.out; have zg1_ := HG_BK_w0.out; have zg2_ := HG_BK_x0.out; have zg3_ := HG_BK_g0.out; have zl0_ := HLO1.out; have zl1_ := HLO2.out; have zl2_ := HLO3.out; have zl3_ := HLO4.out; have zl4_ := HLO5.out; have zl5_ := HLO6.out; have zl6_ := HLO7.out; have zl7_ := HLO8.out; have zl8_ := HLO9.out; have zl9_ := HLO10.out; omega))
  replace F4 := Aside0.mk (Kd.R_kept F4.out HW.out (fun k_ h1 h2 => by have z1_ := HZ1.out; have z2_ := HZ2.out; have z3_ := HZ3.out; have z4_ := HZ4.out; have z5_ := HZ5.out; have z6_ := HZ6.out; have z7_ := HZ7.out; have z8_ := HZ8.out; have z9_ := HZ9.out; have z10_ := HZ10.out; have z11_ := HZ11.out; have zg0_ := HG_BK_aA.out; have zg1_ := HG_BK_w0.out; have zg2_ := HG_BK_x0.out; have zg3_ := HG_BK_g0.out; have zl0_ := HLO1.out; have zl1_ := HLO2.out; have zl2_ := HLO3.out; have zl3_ := HLO4.out; have zl4_ := HLO5.out; have zl5_ := HLO6.out; have zl6_ := HLO7.out; have zl7_ := HLO8.out; have zl8_ := HLO9.out; have zl9_ := HLO10.out; omega))
  replace F5 := Aside0.mk (Kd.S_kept F5.out HW.out (fun k_ h1 h2 => by have z1_ := HZ1.out; have z2_ := HZ2.out; have z3_ := HZ3.out; have z4_ := HZ4.out; have z5_ := HZ5.out; have z6_ := HZ6.out; have z7_ := HZ7.out; have z8_ := HZ8.out; have z9_ := HZ9.out; have z10_ := HZ10.out; have z11_ := HZ11.out; have zg0_ := HG_BK_aA.out; have zg1_ := HG_BK_w0.out; have zg2_ := HG_BK_x0.out; have zg3_ := HG_BK_g0.out; have zl0_ := HLO1.out; have zl1_ := HLO2.out; have zl2_ := HLO3.out; have zl3_ := HLO4.out; have zl4_ := HLO5.out; have zl5_ := HLO6.out; have zl6_ := HLO7.out; have zl7_ := HLO8.out; have zl8_ := HLO9.out; have zl9_ := HLO10.out; omega))
  replace F6 := Aside0.mk (Kd.R_kept F6.out HW.out (fun k_ h1 h2 => by have z1_ := HZ1.out; have z2_ := HZ2.out; have z3_ := HZ3.out; have z4_ := HZ4.out; have z5_ := HZ5.out; have z6_ := HZ6.out; have z7_ := HZ7.out; have z8_ := HZ8.out; have z9_ := HZ9.out; have z10_ := HZ10.out; have z11_ := HZ11.out; have zg0_ := HG_BK_aA.out; have zg1_ := HG_BK_w0.out; have zg2_ := HG_BK_x0.out; have zg3_ := HG_BK_g0.out; have zl0_ := HLO1.out; have zl1_ := HLO2.out; have zl2_ := HLO3.out; have zl3_ := HLO4.out; have zl4_ := HLO5.out; have zl5_ := HLO6.out; have zl6_ := HLO7.out; have zl7_ := HLO8.out; have zl8_ := HLO9.out; have zl9_ := HLO10.out; omega))
  replace BK_aA := Aside0.mk (blk_kept BK_aA.out HW.out (fun h2 => by have z1_ := HZ1.out; have z2_ := HZ2.out; have z3_ := HZ3.out; have z4_ := HZ4.out; have z5_ := HZ5.out; have z6_ := HZ6.out; have z7_ := HZ7.out; have z8_ := HZ8.out; have z9_ := HZ9.out; have z10_ := HZ10.out; have z11_ := HZ11.out; have zg0_ := HG_BK_aA.out; have zg1_ := HG_BK_w0.out; have zg2_ := HG_BK_x0.out; have zg3_ := HG_BK_g0.out; have zl0_ := HLO1.out; have zl1_ := HLO2.out; have zl2_ := HLO3.out; have zl3_ := HLO4.out; have zl4_ := HLO5.out; have zl5_ := HLO6.out; have zl6_ := HLO7.out; have zl7_ := HLO8.out; have zl8_ := HLO9.out; have zl9_ := HLO10.out; omega))
  replace BK_w0 := Aside0.mk (blk_kept BK_w0.out HW.out (fun h2 => by have z1_ := HZ1.out; have z2_ := HZ2.out; have z3_ := HZ3.out; have z4_ := HZ4.out; have z5_ := HZ5.out; have z6_ := HZ6.out; have z7_ := HZ7.out; have z8_ := HZ8.out; have z9_ := HZ9.out; have z10_ := HZ10.out; have z11_ := HZ11.out; have zg0_ := HG_BK_aA.out; have zg1_ := HG_BK_w0.out; have zg2_ := HG_BK_x0.out; have zg3_ := HG_BK_g0.out; have zl0_ := HLO1.out; have zl1_ := HLO2.out; have zl2_ := HLO3.out; have zl3_ := HLO4.out; have zl4_ := HLO5.out; have zl5_ := HLO6.out; have zl6_ := HLO7.out; have zl7_ := HLO8.out; have zl8_ := HLO9.out; have zl9_ := HLO10.out; omega))
  replace BK_x0 := Aside0.mk (blk_kept BK_x0.out HW.out (fun h2 => by have z1_ := HZ1.out; have z2_ := HZ2.out; have z3_ := HZ3.out; have z4_ := HZ4.out; have z5_ := HZ5.out; have z6_ := HZ6.out; have z7_ := HZ7.out; have z8_ := HZ8.out; have z9_ := HZ9.out; have z10_ := HZ10.out; have z11_ := HZ11.out; have zg0_ := HG_BK_aA.out; have zg1_ := HG_BK_w0.out; have zg2_ := HG_BK_x0.out; have zg3_ := HG_BK_g0.out; have zl0_ := HLO1.out; have zl1_ := HLO2.out; have zl2_ := HLO3.out; have zl3_ := HLO4.out; have zl4_ := HLO5.out; have zl5_ := HLO6.out; have zl6_ := HLO7.out; have zl7_ := HLO8.out; have zl8_ := HLO9.out; have zl9_ := HLO10.out; omega))
  replace BK_g0 := Aside0.mk (blk_kept BK_g0.out HW.out (fun h2 => by have z1_ := HZ1.out; have z2_ := HZ2.out; have z3_ := HZ3.out; have z4_ := HZ4.out; have z5_ := HZ5.out; have z6_ := HZ6.out; have z7_ := HZ7.out; have z8_ := HZ8.out; have z9_ := HZ9.out; have z10_ := HZ10.out; have z11_ := HZ11.out; have zg0_ := HG_BK_aA.out; have zg1_ := HG_BK_w0.out; have zg2_ := HG_BK_x0.out; have zg3_ := HG_BK_g0.out; have zl0_ := HLO1.out; have zl1_ := HLO2.out; have zl2_ := HLO3.out; have zl3_ := HLO4.out; have zl4_ := HLO5.out; have zl5_ := HLO6.out; have zl6_ := HLO7.out; have zl7_ := HLO8.out; have zl8_ := HLO9.out; have zl9_ := HLO10.out; omega))
  replace F7 := Aside0.mk hf_F7
  have HQ := Aside0.mk (Kd.S_reads' F7.out).1
  rw [HQ.out] at F7
  rw [HQ.out] at BK_g0
  clear HQ
  replace F8 := Aside0.mk (Own.R_ok hf_F8 F8.out.1)
  have HQ := Aside0.mk (Kd.R_reads' F8.out).1
  rw [HQ.out] at F8
  rw [HQ.out] at BK_g0
  clear HQ
  clear hb hk HW hf_F7 hf_F8
  have czBK_aA_0 : w12.cell? ⟨w.heap.size, 0, none⟩ = some (.int .i64 a0_0) := (blk_cell BK_aA.out 0).trans rfl
  have czBK_aA_1 : w12.cell? ⟨w.heap.size, 1, none⟩ = some (.slice A0_1 l0_1.length c0_1) := (blk_cell BK_aA.out 1).trans rfl
  have czBK_aA_2 : w12.cell? ⟨w.heap.size, 2, none⟩ = some (.slice A0_2 l0_2.length c0_2) := (blk_cell BK_aA.out 2).trans rfl
  have czBK_w0_0 : w12.cell? ⟨w3.heap.size, 0, none⟩ = some (.int .i64 r0_0) := (blk_cell BK_w0.out 0).trans rfl
  have czBK_w0_1 : w12.cell? ⟨w3.heap.size, 1, none⟩ = some (.slice A3_ r0_1.length c3_) := (blk_cell BK_w0.out 1).trans rfl
  have czBK_w0_2 : w12.cell? ⟨w3.heap.size, 2, none⟩ = some (.slice A4_ r0_2.length c4_) := (blk_cell BK_w0.out 2).trans rfl
  have czBK_x0_0 : w12.cell? ⟨w4.heap.size, 0, none⟩ = some (.int .i64 a0_0) := (blk_cell BK_x0.out 0).trans rfl
  have czBK_x0_1 : w12.cell? ⟨w4.heap.size, 1, none⟩ = some (.slice A5_ nx0_1.length c5_) := (blk_cell BK_x0.out 1).trans rfl
  have czBK_x0_2 : w12.cell? ⟨w4.heap.size, 2, none⟩ = some (.slice A6_ nx0_2.length c6_) := (blk_cell BK_x0.out 2).trans rfl
  have czBK_g0_0 : w12.cell? ⟨w5.heap.size, 0, none⟩ = some (.int .i64 r0_0) := (blk_cell BK_g0.out 0).trans rfl
  have czBK_g0_1 : w12.cell? ⟨w5.heap.size, 1, none⟩ = some (.slice A7_ ng0_1.length c7_) := (blk_cell BK_g0.out 1).trans rfl
  have czBK_g0_2 : w12.cell? ⟨w5.heap.size, 2, none⟩ = some (.slice A8_ ng0_2.length c8_) := (blk_cell BK_g0.out 2).trans rfl
  go_wp2_with fail
  refine (laws_heldAutomaton.calls k _ _ _ _ _ _ _ _ _ _ (Kd.C_below (Kd.S_reads' F7.out).2.2 (by repeat (first | with_reducible exact Below.refl _ _ | with_reducible apply below_alloc | with_reducible refine below_set ?_ (Nat.le_refl _) | with_reducible apply pw_below_drewN | with_reducible apply below_drew1))) (Kd.S_reads' F7.out).2.1 (Kd.C_below (Kd.R_reads' F8.out).2.2 (by repeat (first | with_reducible exact Below.refl _ _ | with_reducible apply below_alloc | with_reducible refine below_set ?_ (Nat.le_refl _) | with_reducible apply pw_below_drewN | with_reducible apply below_drew1))) (Kd.R_reads' F8.out).2.1 He_held_g0.out).mono ?_
  rintro e w13 ⟨rfl, hb⟩
  clear czBK_aA_0 czBK_aA_1 czBK_aA_2 czBK_w0_0 czBK_w0_1 czBK_w0_2 czBK_x0_0 czBK_x0_1 czBK_x0_2 czBK_g0_0 czBK_g0_1 czBK_g0_2
  have HW := Aside0.mk (below_step (w := w12) (by repeat (first | with_reducible exact Below.refl _ _ | with_reducible apply below_alloc | with_reducible refine below_set ?_ (Nat.le_refl _) | with_reducible apply pw_below_drewN | with_reducible apply below_drew1)) hb)
  have HZ13 : Aside0 (w12.heap.size ≤ w13.heap.size) := ⟨HW.out.size⟩
  replace HB := Aside0.mk (below_step HB.out HW.out)
  replace F1 := Aside0.mk (Kd.S_below F1.out HW.out)
  replace F2 := Aside0.mk (Kd.R_below F2.out HW.out)
  replace F3 := Aside0.mk (Kd.S_below F3.out HW.out)
  replace F4 := Aside0.mk (Kd.R_below F4.out HW.out)
  replace F5 := Aside0.mk (Kd.S_below F5.out HW.out)
  replace F6 := Aside0.mk (Kd.R_below F6.out HW.out)
  replace F7 := Aside0.mk (Kd.S_below F7.out HW.out)
  replace F8 := Aside0.mk (Kd.R_below F8.out HW.out)
  replace BK_aA := Aside0.mk (blk_below BK_aA.out HW.out)
  replace BK_w0 := Aside0.mk (blk_below BK_w0.out HW.out)
  replace BK_x0 := Aside0.mk (blk_below BK_x0.out HW.out)
  replace BK_g0 := Aside0.mk (blk_below BK_g0.out HW.out)
  clear hb HW
  have czBK_aA_0 : w13.cell? ⟨w.heap.size, 0, none⟩ = some (.int .i64 a0_0) := (blk_cell BK_aA.out 0).trans rfl
  have czBK_aA_1 : w13.cell? ⟨w.heap.size, 1, none⟩ = some (.slice A0_1 l0_1.length c0_1) := (blk_cell BK_aA.out 1).trans rfl
  have czBK_aA_2 : w13.cell? ⟨w.heap.size, 2, none⟩ = some (.slice A0_2 l0_2.length c0_2) := (blk_cell BK_aA.out 2).trans rfl
  have czBK_w0_0 : w13.cell? ⟨w3.heap.size, 0, none⟩ = some (.int .i64 r0_0) := (blk_cell BK_w0.out 0).trans rfl
  have czBK_w0_1 : w13.cell? ⟨w3.heap.size, 1, none⟩ = some (.slice A3_ r0_1.length c3_) := (blk_cell BK_w0.out 1).trans rfl
  have czBK_w0_2 : w13.cell? ⟨w3.heap.size, 2, none⟩ = some (.slice A4_ r0_2.length c4_) := (blk_cell BK_w0.out 2).trans rfl
  have czBK_x0_0 : w13.cell? ⟨w4.heap.size, 0, none⟩ = some (.int .i64 a0_0) := (blk_cell BK_x0.out 0).trans rfl
  have czBK_x0_1 : w13.cell? ⟨w4.heap.size, 1, none⟩ = some (.slice A5_ nx0_1.length c5_) := (blk_cell BK_x0.out 1).trans rfl
  have czBK_x0_2 : w13.cell? ⟨w4.heap.size, 2, none⟩ = some (.slice A6_ nx0_2.length c6_) := (blk_cell BK_x0.out 2).trans rfl
  have czBK_g0_0 : w13.cell? ⟨w5.heap.size, 0, none⟩ = some (.int .i64 r0_0) := (blk_cell BK_g0.out 0).trans rfl
  have czBK_g0_1 : w13.cell? ⟨w5.heap.size, 1, none⟩ = some (.slice A7_ ng0_1.length c7_) := (blk_cell BK_g0.out 1).trans rfl
  have czBK_g0_2 : w13.cell? ⟨w5.heap.size, 2, none⟩ = some (.slice A8_ ng0_2.length c8_) := (blk_cell BK_g0.out 2).trans rfl
  go_wp2_with fail
  refine (laws_toAutomaton.calls k _ _ _ _ _ _ _ _ _ _ _ (Kd.C_below HR0_1.out (below_step HB.out (by repeat (first | with_reducible exact Below.refl _ _ | with_reducible apply below_alloc | with_reducible refine below_set ?_ (Nat.le_refl _) | with_reducible apply pw_below_drewN | with_reducible apply below_drew1)))) HC0_1.out (Kd.C_below HR0_2.out (below_step HB.out (by repeat (first | with_reducible exact Below.refl _ _ | with_reducible apply below_alloc | with_reducible refine below_set ?_ (Nat.le_refl _) | with_reducible apply pw_below_drewN | with_reducible apply below_drew1)))) HC0_2.out He_to_aA.out).mono ?_
  rintro e w14 ⟨vt414_0, vt414_1, rfl, hf11, hf12, hb⟩
  clear czBK_aA_0 czBK_aA_1 czBK_aA_2 czBK_w0_0 czBK_w0_1 czBK_w0_2 czBK_x0_0 czBK_x0_1 czBK_x0_2 czBK_g0_0 czBK_g0_1 czBK_g0_2
  have HN := Aside0.mk HB.out.size
  have HW := Aside0.mk (below_step (w := w13) (by repeat (first | with_reducible exact Below.refl _ _ | with_reducible apply below_alloc | with_reducible refine below_set ?_ (Nat.le_refl _) | with_reducible apply pw_below_drewN | with_reducible apply below_drew1)) hb)
  have HZ14 : Aside0 (w13.heap.size ≤ w14.heap.size) := ⟨HW.out.size⟩
  replace HB := Aside0.mk (below_step HB.out HW.out)
  replace F1 := Aside0.mk (Kd.S_below F1.out HW.out)
  replace F2 := Aside0.mk (Kd.R_below F2.out HW.out)
  replace F3 := Aside0.mk (Kd.S_below F3.out HW.out)
  replace F4 := Aside0.mk (Kd.R_below F4.out HW.out)
  replace F5 := Aside0.mk (Kd.S_below F5.out HW.out)
  replace F6 := Aside0.mk (Kd.R_below F6.out HW.out)
  replace F7 := Aside0.mk (Kd.S_below F7.out HW.out)
  replace F8 := Aside0.mk (Kd.R_below F8.out HW.out)
  replace BK_aA := Aside0.mk (blk_below BK_aA.out HW.out)
  replace BK_w0 := Aside0.mk (blk_below BK_w0.out HW.out)
  replace BK_x0 := Aside0.mk (blk_below BK_x0.out HW.out)
  replace BK_g0 := Aside0.mk (blk_below BK_g0.out HW.out)
  obtain ⟨lo11_, F11, HLO11⟩ := Own.S_iv (wN := w13) hf11 HN.out (by repeat (first | with_reducible exact Below.refl _ _ | with_reducible apply below_alloc | with_reducible refine below_set ?_ (Nat.le_refl _) | with_reducible apply pw_below_drewN | with_reducible apply below_drew1)) hb
  obtain ⟨lo12_, F12, HLO12⟩ := Own.R_iv (wN := w13) rfl hf12 HN.out (by repeat (first | with_reducible exact Below.refl _ _ | with_reducible apply below_alloc | with_reducible refine below_set ?_ (Nat.le_refl _) | with_reducible apply pw_below_drewN | with_reducible apply below_drew1)) hb
  obtain ⟨A11_, c11_, e11_⟩ := Kd.S_slice F11.out
  subst e11_
  obtain ⟨A12_, c12_, e12_⟩ := Kd.R_slice F12.out
  subst e12_
  clear hb HW HN hf11 hf12
  have czBK_aA_0 : w14.cell? ⟨w.heap.size, 0, none⟩ = some (.int .i64 a0_0) := (blk_cell BK_aA.out 0).trans rfl
  have czBK_aA_1 : w14.cell? ⟨w.heap.size, 1, none⟩ = some (.slice A0_1 l0_1.length c0_1) := (blk_cell BK_aA.out 1).trans rfl
  have czBK_aA_2 : w14.cell? ⟨w.heap.size, 2, none⟩ = some (.slice A0_2 l0_2.length c0_2) := (blk_cell BK_aA.out 2).trans rfl
  have czBK_w0_0 : w14.cell? ⟨w3.heap.size, 0, none⟩ = some (.int .i64 r0_0) := (blk_cell BK_w0.out 0).trans rfl
  have czBK_w0_1 : w14.cell? ⟨w3.heap.size, 1, none⟩ = some (.slice A3_ r0_1.length c3_) := (blk_cell BK_w0.out 1).trans rfl
  have czBK_w0_2 : w14.cell? ⟨w3.heap.size, 2, none⟩ = some (.slice A4_ r0_2.length c4_) := (blk_cell BK_w0.out 2).trans rfl
  have czBK_x0_0 : w14.cell? ⟨w4.heap.size, 0, none⟩ = some (.int .i64 a0_0) := (blk_cell BK_x0.out 0).trans rfl
  have czBK_x0_1 : w14.cell? ⟨w4.heap.size, 1, none⟩ = some (.slice A5_ nx0_1.length c5_) := (blk_cell BK_x0.out 1).trans rfl
  have czBK_x0_2 : w14.cell? ⟨w4.heap.size, 2, none⟩ = some (.slice A6_ nx0_2.length c6_) := (blk_cell BK_x0.out 2).trans rfl
  have czBK_g0_0 : w14.cell? ⟨w5.heap.size, 0, none⟩ = some (.int .i64 r0_0) := (blk_cell BK_g0.out 0).trans rfl
  have czBK_g0_1 : w14.cell? ⟨w5.heap.size, 1, none⟩ = some (.slice A7_ ng0_1.length c7_) := (blk_cell BK_g0.out 1).trans rfl
  have czBK_g0_2 : w14.cell? ⟨w5.heap.size, 2, none⟩ = some (.slice A8_ ng0_2.length c8_) := (blk_cell BK_g0.out 2).trans rfl
  go_wp2_with fail
  refine (impl_TurnFinal.calls k _ _ _ _ _ _ _ _ _ _ _ _ (Kd.C_below (Kd.S_reads' F11.out).2.2 (by repeat (first | with_reducible exact Below.refl _ _ | with_reducible apply below_alloc | with_reducible refine below_set ?_ (Nat.le_refl _) | with_reducible apply pw_below_drewN | with_reducible apply below_drew1))) (Kd.S_reads' F11.out).2.1 (Kd.C_below (Kd.R_reads' F12.out).2.2 (by repeat (first | with_reducible exact Below.refl _ _ | with_reducible apply below_alloc | with_reducible refine below_set ?_ (Nat.le_refl _) | with_reducible apply pw_below_drewN | with_reducible apply below_drew1))) (Kd.R_reads' F12.out).2.1 He_impl.out).mono ?_
  rintro e w15 ⟨vh0_0, vh0_1, rfl, hf13, hf14, hb⟩
  clear czBK_aA_0 czBK_aA_1 czBK_aA_2 czBK_w0_0 czBK_w0_1 czBK_w0_2 czBK_x0_0 czBK_x0_1 czBK_x0_2 czBK_g0_0 czBK_g0_1 czBK_g0_2
  have HN := Aside0.mk HB.out.size
  have HW := Aside0.mk (below_step (w := w14) (by repeat (first | with_reducible exact Below.refl _ _ | with_reducible apply below_alloc | with_reducible refine below_set ?_ (Nat.le_refl _) | with_reducible apply pw_below_drewN | with_reducible apply below_drew1)) hb)
  have HZ15 : Aside0 (w14.heap.size ≤ w15.heap.size) := ⟨HW.out.size⟩
  replace HB := Aside0.mk (below_step HB.out HW.out)
  replace F1 := Aside0.mk (Kd.S_below F1.out HW.out)
  replace F2 := Aside0.mk (Kd.R_below F2.out HW.out)
  replace F3 := Aside0.mk (Kd.S_below F3.out HW.out)
  replace F4 := Aside0.mk (Kd.R_below F4.out HW.out)
  replace F5 := Aside0.mk (Kd.S_below F5.out HW.out)
  replace F6 := Aside0.mk (Kd.R_below F6.out HW.out)
  replace F7 := Aside0.mk (Kd.S_below F7.out HW.out)
  replace F8 := Aside0.mk (Kd.R_below F8.out HW.out)
  replace F11 := Aside0.mk (Kd.S_below F11.out HW.out)
  replace F12 := Aside0.mk (Kd.R_below F12.out HW.out)
  replace BK_aA := Aside0.mk (blk_below BK_aA.out HW.out)
  replace BK_w0 := Aside0.mk (blk_below BK_w0.out HW.out)
  replace BK_x0 := Aside0.mk (blk_below BK_x0.out HW.out)
  replace BK_g0 := Aside0.mk (blk_below BK_g0.out HW.out)
  obtain ⟨lo13_, F13, HLO13⟩ := Own.S_iv (wN := w14) hf13 HN.out (by repeat (first | with_reducible exact Below.refl _ _ | with_reducible apply below_alloc | with_reducible refine below_set ?_ (Nat.le_refl _) | with_reducible apply pw_below_drewN | with_reducible apply below_drew1)) hb
  obtain ⟨lo14_, F14, HLO14⟩ := Own.R_iv (wN := w14) rfl hf14 HN.out (by repeat (first | with_reducible exact Below.refl _ _ | with_reducible apply below_alloc | with_reducible refine below_set ?_ (Nat.le_refl _) | with_reducible apply pw_below_drewN | with_reducible apply below_drew1)) hb
  obtain ⟨A13_, c13_, e13_⟩ := Kd.S_slice F13.out
  subst e13_
  obtain ⟨A14_, c14_, e14_⟩ := Kd.R_slice F14.out
  subst e14_
  clear hb HW HN hf13 hf14
  have czBK_aA_0 : (w15.alloc (.cells #[.int .i64 r0_0, .slice A13_ s0_1.length c13_, .slice A14_ s0_2.length c14_] 29)).cell? ⟨w.heap.size, 0, none⟩ = some (.int .i64 a0_0) := (blk_cell (blk_alloc BK_aA.out _) 0).trans rfl
  have czBK_aA_1 : (w15.alloc (.cells #[.int .i64 r0_0, .slice A13_ s0_1.length c13_, .slice A14_ s0_2.length c14_] 29)).cell? ⟨w.heap.size, 1, none⟩ = some (.slice A0_1 l0_1.length c0_1) := (blk_cell (blk_alloc BK_aA.out _) 1).trans rfl
  have czBK_aA_2 : (w15.alloc (.cells #[.int .i64 r0_0, .slice A13_ s0_1.length c13_, .slice A14_ s0_2.length c14_] 29)).cell? ⟨w.heap.size, 2, none⟩ = some (.slice A0_2 l0_2.length c0_2) := (blk_cell (blk_alloc BK_aA.out _) 2).trans rfl
  have czBK_w0_0 : (w15.alloc (.cells #[.int .i64 r0_0, .slice A13_ s0_1.length c13_, .slice A14_ s0_2.length c14_] 29)).cell? ⟨w3.heap.size, 0, none⟩ = some (.int .i64 r0_0) := (blk_cell (blk_alloc BK_w0.out _) 0).trans rfl
  have czBK_w0_1 : (w15.alloc (.cells #[.int .i64 r0_0, .slice A13_ s0_1.length c13_, .slice A14_ s0_2.length c14_] 29)).cell? ⟨w3.heap.size, 1, none⟩ = some (.slice A3_ r0_1.length c3_) := (blk_cell (blk_alloc BK_w0.out _) 1).trans rfl
  have czBK_w0_2 : (w15.alloc (.cells #[.int .i64 r0_0, .slice A13_ s0_1.length c13_, .slice A14_ s0_2.length c14_] 29)).cell? ⟨w3.heap.size, 2, none⟩ = some (.slice A4_ r0_2.length c4_) := (blk_cell (blk_alloc BK_w0.out _) 2).trans rfl
  have czBK_x0_0 : (w15.alloc (.cells #[.int .i64 r0_0, .slice A13_ s0_1.length c13_, .slice A14_ s0_2.length c14_] 29)).cell? ⟨w4.heap.size, 0, none⟩ = some (.int .i64 a0_0) := (blk_cell (blk_alloc BK_x0.out _) 0).trans rfl
  have czBK_x0_1 : (w15.alloc (.cells #[.int .i64 r0_0, .slice A13_ s0_1.length c13_, .slice A14_ s0_2.length c14_] 29)).cell? ⟨w4.heap.size, 1, none⟩ = some (.slice A5_ nx0_1.length c5_) := (blk_cell (blk_alloc BK_x0.out _) 1).trans rfl
  have czBK_x0_2 : (w15.alloc (.cells #[.int .i64 r0_0, .slice A13_ s0_1.length c13_, .slice A14_ s0_2.length c14_] 29)).cell? ⟨w4.heap.size, 2, none⟩ = some (.slice A6_ nx0_2.length c6_) := (blk_cell (blk_alloc BK_x0.out _) 2).trans rfl
  have czBK_g0_0 : (w15.alloc (.cells #[.int .i64 r0_0, .slice A13_ s0_1.length c13_, .slice A14_ s0_2.length c14_] 29)).cell? ⟨w5.heap.size, 0, none⟩ = some (.int .i64 r0_0) := (blk_cell (blk_alloc BK_g0.out _) 0).trans rfl
  have czBK_g0_1 : (w15.alloc (.cells #[.int .i64 r0_0, .slice A13_ s0_1.length c13_, .slice A14_ s0_2.length c14_] 29)).cell? ⟨w5.heap.size, 1, none⟩ = some (.slice A7_ ng0_1.length c7_) := (blk_cell (blk_alloc BK_g0.out _) 1).trans rfl
  have czBK_g0_2 : (w15.alloc (.cells #[.int .i64 r0_0, .slice A13_ s0_1.length c13_, .slice A14_ s0_2.length c14_] 29)).cell? ⟨w5.heap.size, 2, none⟩ = some (.slice A8_ ng0_2.length c8_) := (blk_cell (blk_alloc BK_g0.out _) 2).trans rfl
  go_wp2_with fail
  refine (laws_eqAutomaton.calls k _ _ _ _ _ _ _ _ _ _ _ _ _ _ _ _ (Kd.C_below (Kd.S_reads' F13.out).2.2 (by repeat (first | with_reducible exact Below.refl _ _ | with_reducible apply below_alloc | with_reducible refine below_set ?_ (Nat.le_refl _) | with_reducible apply pw_below_drewN | with_reducible apply below_drew1))) (Kd.S_reads' F13.out).2.1 (Kd.C_below (Kd.R_reads' F14.out).2.2 (by repeat (first | with_reducible exact Below.refl _ _ | with_reducible apply below_alloc | with_reducible refine below_set ?_ (Nat.le_refl _) | with_reducible apply pw_below_drewN | with_reducible apply below_drew1))) (Kd.R_reads' F14.out).2.1 (Kd.C_below (Kd.S_reads' F3.out).2.2 (by repeat (first | with_reducible exact Below.refl _ _ | with_reducible apply below_alloc | with_reducible refine below_set ?_ (Nat.le_refl _) | with_reducible apply pw_below_drewN | with_reducible apply below_drew1))) (Kd.S_reads' F3.out).2.1 (Kd.C_below (Kd.R_reads' F4.out).2.2 (by repeat (first | with_reducible exact Below.refl _ _ | with_reducible apply below_alloc | with_reducible refine below_set ?_ (Nat.le_refl _) | with_reducible apply pw_below_drewN | with_reducible apply below_drew1))) (Kd.R_reads' F4.out).2.1 He_eq_w0.out).mono ?_
  rintro e w16 ⟨rfl, hb⟩
  clear czBK_aA_0 czBK_aA_1 czBK_aA_2 czBK_w0_0 czBK_w0_1 czBK_w0_2 czBK_x0_0 czBK_x0_1 czBK_x0_2 czBK_g0_0 czBK_g0_1 czBK_g0_2
  have BK_h0 := Aside0.mk (blk_below (g := w15.heap.size) (o := .cells #[.int .i64 r0_0, .slice A13_ s0_1.length c13_, .slice A14_ s0_2.length c14_] 29 (0, 0)) (by (repeat (first | with_reducible refine blk_drewN ?_ _ | with_reducible refine blk_drew ?_)); exact (blk_new _ _)) hb)
  have HG_BK_h0 : Aside0 (w15.heap.size < w16.heap.size) := ⟨blk_lt BK_h0.out⟩
  have HW := Aside0.mk (below_step (w := w15) (by repeat (first | with_reducible exact Below.refl _ _ | with_reducible apply below_alloc | with_reducible refine below_set ?_ (Nat.le_refl _) | with_reducible apply pw_below_drewN | with_reducible apply below_drew1)) hb)
  have HZ16 : Aside0 (w15.heap.size ≤ w16.heap.size) := ⟨HW.out.size⟩
  replace HB := Aside0.mk (below_step HB.out HW.out)
  replace F1 := Aside0.mk (Kd.S_below F1.out HW.out)
  replace F2 := Aside0.mk (Kd.R_below F2.out HW.out)
  replace F3 := Aside0.mk (Kd.S_below F3.out HW.out)
  replace F4 := Aside0.mk (Kd.R_below F4.out HW.out)
  replace F5 := Aside0.mk (Kd.S_below F5.out HW.out)
  replace F6 := Aside0.mk (Kd.R_below F6.out HW.out)
  replace F7 := Aside0.mk (Kd.S_below F7.out HW.out)
  replace F8 := Aside0.mk (Kd.R_below F8.out HW.out)
  replace F11 := Aside0.mk (Kd.S_below F11.out HW.out)
  replace F12 := Aside0.mk (Kd.R_below F12.out HW.out)
  replace F13 := Aside0.mk (Kd.S_below F13.out HW.out)
  replace F14 := Aside0.mk (Kd.R_below F14.out HW.out)
  replace BK_aA := Aside0.mk (blk_below BK_aA.out HW.out)
  replace BK_w0 := Aside0.mk (blk_below BK_w0.out HW.out)
  replace BK_x0 := Aside0.mk (blk_below BK_x0.out HW.out)
  replace BK_g0 := Aside0.mk (blk_below BK_g0.out HW.out)
  clear hb HW
  have czBK_aA_0 : w16.cell? ⟨w.heap.size, 0, none⟩ = some (.int .i64 a0_0) := (blk_cell BK_aA.out 0).trans rfl
  have czBK_aA_1 : w16.cell? ⟨w.heap.size, 1, none⟩ = some (.slice A0_1 l0_1.length c0_1) := (blk_cell BK_aA.out 1).trans rfl
  have czBK_aA_2 : w16.cell? ⟨w.heap.size, 2, none⟩ = some (.slice A0_2 l0_2.length c0_2) := (blk_cell BK_aA.out 2).trans rfl
  have czBK_w0_0 : w16.cell? ⟨w3.heap.size, 0, none⟩ = some (.int .i64 r0_0) := (blk_cell BK_w0.out 0).trans rfl
  have czBK_w0_1 : w16.cell? ⟨w3.heap.size, 1, none⟩ = some (.slice A3_ r0_1.length c3_) := (blk_cell BK_w0.out 1).trans rfl
  have czBK_w0_2 : w16.cell? ⟨w3.heap.size, 2, none⟩ = some (.slice A4_ r0_2.length c4_) := (blk_cell BK_w0.out 2).trans rfl
  have czBK_x0_0 : w16.cell? ⟨w4.heap.size, 0, none⟩ = some (.int .i64 a0_0) := (blk_cell BK_x0.out 0).trans rfl
  have czBK_x0_1 : w16.cell? ⟨w4.heap.size, 1, none⟩ = some (.slice A5_ nx0_1.length c5_) := (blk_cell BK_x0.out 1).trans rfl
  have czBK_x0_2 : w16.cell? ⟨w4.heap.size, 2, none⟩ = some (.slice A6_ nx0_2.length c6_) := (blk_cell BK_x0.out 2).trans rfl
  have czBK_g0_0 : w16.cell? ⟨w5.heap.size, 0, none⟩ = some (.int .i64 r0_0) := (blk_cell BK_g0.out 0).trans rfl
  have czBK_g0_1 : w16.cell? ⟨w5.heap.size, 1, none⟩ = some (.slice A7_ ng0_1.length c7_) := (blk_cell BK_g0.out 1).trans rfl
  have czBK_g0_2 : w16.cell? ⟨w5.heap.size, 2, none⟩ = some (.slice A8_ ng0_2.length c8_) := (blk_cell BK_g0.out 2).trans rfl
  have czBK_h0_0 : w16.cell? ⟨w15.heap.size, 0, none⟩ = some (.int .i64 r0_0) := (blk_cell BK_h0.out 0).trans rfl
  have czBK_h0_1 : w16.cell? ⟨w15.heap.size, 1, none⟩ = some (.slice A13_ s0_1.length c13_) := (blk_cell BK_h0.out 1).trans rfl
  have czBK_h0_2 : w16.cell? ⟨w15.heap.size, 2, none⟩ = some (.slice A14_ s0_2.length c14_) := (blk_cell BK_h0.out 2).trans rfl
  go_wp2_with fail
  refine (laws_heldAutomaton.calls k _ _ _ _ _ _ _ _ _ _ (Kd.C_below (Kd.S_reads' F7.out).2.2 (by repeat (first | with_reducible exact Below.refl _ _ | with_reducible apply below_alloc | with_reducible refine below_set ?_ (Nat.le_refl _) | with_reducible apply pw_below_drewN | with_reducible apply below_drew1))) (Kd.S_reads' F7.out).2.1 (Kd.C_below (Kd.R_reads' F8.out).2.2 (by repeat (first | with_reducible exact Below.refl _ _ | with_reducible apply below_alloc | with_reducible refine below_set ?_ (Nat.le_refl _) | with_reducible apply pw_below_drewN | with_reducible apply below_drew1))) (Kd.R_reads' F8.out).2.1 He_held_g0.out).mono ?_
  rintro e w17 ⟨rfl, hb⟩
  clear czBK_aA_0 czBK_aA_1 czBK_aA_2 czBK_w0_0 czBK_w0_1 czBK_w0_2 czBK_x0_0 czBK_x0_1 czBK_x0_2 czBK_g0_0 czBK_g0_1 czBK_g0_2 czBK_h0_0 czBK_h0_1 czBK_h0_2
  have HW := Aside0.mk (below_step (w := w16) (by repeat (first | with_reducible exact Below.refl _ _ | with_reducible apply below_alloc | with_reducible refine below_set ?_ (Nat.le_refl _) | with_reducible apply pw_below_drewN | with_reducible apply below_drew1)) hb)
  have HZ17 : Aside0 (w16.heap.size ≤ w17.heap.size) := ⟨HW.out.size⟩
  replace HB := Aside0.mk (below_step HB.out HW.out)
  replace F1 := Aside0.mk (Kd.S_below F1.out HW.out)
  replace F2 := Aside0.mk (Kd.R_below F2.out HW.out)
  replace F3 := Aside0.mk (Kd.S_below F3.out HW.out)
  replace F4 := Aside0.mk (Kd.R_below F4.out HW.out)
  replace F5 := Aside0.mk (Kd.S_below F5.out HW.out)
  replace F6 := Aside0.mk (Kd.R_below F6.out HW.out)
  replace F7 := Aside0.mk (Kd.S_below F7.out HW.out)
  replace F8 := Aside0.mk (Kd.R_below F8.out HW.out)
  replace F11 := Aside0.mk (Kd.S_below F11.out HW.out)
  replace F12 := Aside0.mk (Kd.R_below F12.out HW.out)
  replace F13 := Aside0.mk (Kd.S_below F13.out HW.out)
  replace F14 := Aside0.mk (Kd.R_below F14.out HW.out)
  replace BK_aA := Aside0.mk (blk_below BK_aA.out HW.out)
  replace BK_w0 := Aside0.mk (blk_below BK_w0.out HW.out)
  replace BK_x0 := Aside0.mk (blk_below BK_x0.out HW.out)
  replace BK_g0 := Aside0.mk (blk_below BK_g0.out HW.out)
  replace BK_h0 := Aside0.mk (blk_below BK_h0.out HW.out)
  clear hb HW
  have czBK_aA_0 : w17.cell? ⟨w.heap.size, 0, none⟩ = some (.int .i64 a0_0) := (blk_cell BK_aA.out 0).trans rfl
  have czBK_aA_1 : w17.cell? ⟨w.heap.size, 1, none⟩ = some (.slice A0_1 l0_1.length c0_1) := (blk_cell BK_aA.out 1).trans rfl
  have czBK_aA_2 : w17.cell? ⟨w.heap.size, 2, none⟩ = some (.slice A0_2 l0_2.length c0_2) := (blk_cell BK_aA.out 2).trans rfl
  have czBK_w0_0 : w17.cell? ⟨w3.heap.size, 0, none⟩ = some (.int .i64 r0_0) := (blk_cell BK_w0.out 0).trans rfl
  have czBK_w0_1 : w17.cell? ⟨w3.heap.size, 1, none⟩ = some (.slice A3_ r0_1.length c3_) := (blk_cell BK_w0.out 1).trans rfl
  have czBK_w0_2 : w17.cell? ⟨w3.heap.size, 2, none⟩ = some (.slice A4_ r0_2.length c4_) := (blk_cell BK_w0.out 2).trans rfl
  have czBK_x0_0 : w17.cell? ⟨w4.heap.size, 0, none⟩ = some (.int .i64 a0_0) := (blk_cell BK_x0.out 0).trans rfl
  have czBK_x0_1 : w17.cell? ⟨w4.heap.size, 1, none⟩ = some (.slice A5_ nx0_1.length c5_) := (blk_cell BK_x0.out 1).trans rfl
  have czBK_x0_2 : w17.cell? ⟨w4.heap.size, 2, none⟩ = some (.slice A6_ nx0_2.length c6_) := (blk_cell BK_x0.out 2).trans rfl
  have czBK_g0_0 : w17.cell? ⟨w5.heap.size, 0, none⟩ = some (.int .i64 r0_0) := (blk_cell BK_g0.out 0).trans rfl
  have czBK_g0_1 : w17.cell? ⟨w5.heap.size, 1, none⟩ = some (.slice A7_ ng0_1.length c7_) := (blk_cell BK_g0.out 1).trans rfl
  have czBK_g0_2 : w17.cell? ⟨w5.heap.size, 2, none⟩ = some (.slice A8_ ng0_2.length c8_) := (blk_cell BK_g0.out 2).trans rfl
  have czBK_h0_0 : w17.cell? ⟨w15.heap.size, 0, none⟩ = some (.int .i64 r0_0) := (blk_cell BK_h0.out 0).trans rfl
  have czBK_h0_1 : w17.cell? ⟨w15.heap.size, 1, none⟩ = some (.slice A13_ s0_1.length c13_) := (blk_cell BK_h0.out 1).trans rfl
  have czBK_h0_2 : w17.cell? ⟨w15.heap.size, 2, none⟩ = some (.slice A14_ s0_2.length c14_) := (blk_cell BK_h0.out 2).trans rfl
  go_wp2_with fail
  go_ret
  exact ⟨rfl, below_step HB.out (by repeat (first | with_reducible exact Below.refl _ _ | with_reducible apply below_alloc | with_reducible refine below_set ?_ (Nat.le_refl _) | with_reducible apply pw_below_drewN | with_reducible apply below_drew1))⟩
end Go.Proofs.Ytkfedkckakegjaa.P
end

section
/- Small laws on rounds, wrapped sums and reading of lists, for the plain laws of this seat. -/
namespace Go.Proofs.Ytkfedkckakegjaa.T
open Go.RowKit Go.Proofs.YtkfedkckakegjaaW.PrintWords Go.Proofs.YtkfedkckakegjaaW.PrintLast Go.Proofs.YtkfedkckakegjaaW.PrintMore
set_option linter.unusedVariables false

theorem wrap_id {x : Int} (h1 : -9223372036854775808 ≤ x) (h2 : x ≤ 9223372036854775807) : wrap64 x = x := by
  unfold wrap64; omega
theorem wf_lo {n : Int} (h : (Lit.int .i64 n).wf = true) : -9223372036854775808 ≤ n ∧ n ≤ 9223372036854775807 := by
  simp [Lit.wf, IntKind.min, IntKind.max, IntKind.signed, IntKind.bits] at h
  omega

theorem ev_some {α : Type} (r : α) : Ev (fun _ => some r) r := Ev.now r
/-- Rounds that are not used. -/
theorem ev_const {α : Type} {g : Option α} {r : α} (h : g = some r) : Ev (fun _ => g) r := by
  subst h; exact Ev.now r
theorem ev_bind {α β : Type} {g : Nat → Option α} {f : Nat → α → Option β} {a : α} {r : β} (h : Ev g a) (k : Ev (fun n => f n a) r) : Ev (fun n => (g n).bind (f n)) r := Ev.bind h k
theorem ev_bindc {α β : Type} {g : Option α} {f : Nat → α → Option β} {a : α} {r : β} (h : g = some a) (k : Ev (fun n => f n a) r) : Ev (fun n => g.bind (f n)) r := by
  subst h; exact k
theorem ev_pos {α : Type} {c : Prop} [Decidable c] {g f : Nat → Option α} {r : α} (h : c) (k : Ev g r) : Ev (fun n => if c then g n else f n) r := by
  simp only [if_pos h]; exact k
theorem ev_neg {α : Type} {c : Prop} [Decidable c] {g f : Nat → Option α} {r : α} (h : ¬ c) (k : Ev f r) : Ev (fun n => if c then g n else f n) r := by
  simp only [if_neg h]; exact k
theorem ev_ite {α : Type} {c : Prop} [Decidable c] {g f : Nat → Option α} {a b : α} (h : c → Ev g a) (k : ¬ c → Ev f b) : Ev (fun n => if c then g n else f n) (if c then a else b) := by
  by_cases hc : c
  · simp only [if_pos hc]; exact h hc
  · simp only [if_neg hc]; exact k hc
theorem ev_uniq {α : Type} {g : Nat → Option α} {a b : α} (h : Ev g a) (k : Ev g b) : a = b := by
  obtain ⟨K, h⟩ := h; obtain ⟨L, k⟩ := k
  have h1 := h (K + L) (by omega); have h2 := k (K + L) (by omega)
  rw [h1] at h2; exact Option.some.inj h2

theorem toNat_len {α : Type} (pre : List α) : ((pre.length : Int)).toNat = pre.length := by simp
theorem getD_mid {α : Type} (pre : List α) (y : α) (suf : List α) (z : α) : (pre ++ y :: suf).getD ((pre.length : Int)).toNat z = y := by simp
theorem lt_mid {α : Type} (pre : List α) (y : α) (suf : List α) : (pre.length : Int) < ((pre ++ y :: suf).length : Int) := by simp; omega
theorem not_lt_end {α : Type} (pre : List α) : ¬ (pre.length : Int) < ((pre ++ []).length : Int) := by simp
theorem next_mid {α : Type} (pre : List α) (y : α) (suf : List α) (h : (pre ++ y :: suf).length ≤ maxLen) : wrap64 ((pre.length : Int) + 1) = ((pre ++ [y]).length : Int) := by
  simp only [List.length_append, List.length_cons, List.length_nil, maxLen] at h ⊢
  rw [wrap_id (by omega) (by omega)]; omega
theorem assoc_mid {α : Type} (pre : List α) (y : α) (suf : List α) : pre ++ y :: suf = (pre ++ [y]) ++ suf := by simp
theorem set_mid {α : Type} (pre : List α) (y y' : α) (suf : List α) : (pre ++ y :: suf).set ((pre.length : Int)).toNat y' = (pre ++ [y']) ++ suf := by
  simp
end Go.Proofs.Ytkfedkckakegjaa.T
end

section
/- What the printed helpers on numbers and on lists of numbers come to. -/
namespace Go.Proofs.Ytkfedkckakegjaa.A
open Go.RowKit Go.Proofs.YtkfedkckakegjaaW.PrintWords Go.Proofs.YtkfedkckakegjaaW.PrintLast Go.Proofs.YtkfedkckakegjaaW.PrintMore Go.Proofs.Ytkfedkckakegjaa.P Go.Proofs.Ytkfedkckakegjaa.T
set_option linter.unusedVariables false
set_option linter.unusedSimpArgs false

theorem rd_mid (pre : List Int) (y : Int) (suf : List Int) : rd (pre ++ y :: suf) (pre.length : Int) = y := by simp [rd]
/-- m, m + 1, .. -/
def iota : Int → Nat → List Int
  | _, 0 => []
  | m, n + 1 => m :: iota (m + 1) n
theorem iota_length (n : Nat) : ∀ m, (iota m n).length = n := by
  induction n with
  | zero => intro m; rfl
  | succ n ih => intro m; simp [iota, ih]
theorem in_f (a lo hi : Int) : spec_l1In.f a lo hi = some (decide (lo ≤ a ∧ a ≤ hi)) := by
  unfold spec_l1In.f
  by_cases h : a ≥ lo
  · rw [if_pos h]; simp [show lo ≤ a from h]
  · rw [if_neg h]; simp; omega
theorem szInts (l : List Int) (a : Int) (ha : 0 ≤ a ∧ a ≤ 1048576) (h : l.length ≤ maxLen) : laws_szIntS.f l a = some (if a - (l.length : Int) < 0 then -1 else a - (l.length : Int)) := by
  unfold laws_szIntS.f
  simp only [maxLen] at h
  rw [wrap_id (by omega) (by omega)]
  by_cases h1 : a - (l.length : Int) < 0
  · rw [if_pos h1, if_pos h1]
  · rw [if_neg h1, if_neg h1]
theorem toInts_loop (l : List Int) : ∀ (suf pre qsuf : List Int), l = pre ++ suf → l.length ≤ maxLen → qsuf.length = suf.length →
    Ev (fun k => laws_toIntS.l0 k l (pre ++ qsuf) (pre.length : Int)) l := by
  intro suf
  induction suf with
  | nil =>
    intro pre qsuf hl hm h2
    subst hl
    obtain rfl : qsuf = [] := List.length_eq_zero_iff.1 h2
    refine Ev.step (fun k => laws_toIntS.l0.eq_2 ..) ?_
    exact ev_neg (not_lt_end _) (ev_const rfl)
  | cons y suf ih =>
    intro pre qsuf hl hm h2
    subst hl
    obtain ⟨z, qsuf, rfl⟩ : ∃ z t, qsuf = z :: t := by cases qsuf with | nil => simp at h2 | cons z t => exact ⟨z, t, rfl⟩
    refine Ev.step (fun k => laws_toIntS.l0.eq_2 ..) ?_
    refine ev_pos (lt_mid _ _ _) (ev_pos (by omega) (ev_pos (lt_mid _ _ _) ?_))
    rw [next_mid _ _ _ hm, set_mid, rd_mid]
    exact ih (pre ++ [y]) qsuf (assoc_mid _ _ _) hm (by simpa using h2)
theorem toInts (l : List Int) (h : l.length ≤ 1048576) : Ev (fun k => laws_toIntS.f k l) l := by
  have := toInts_loop l l [] (List.replicate l.length 0) rfl (by simp only [maxLen]; omega) (by simp)
  unfold laws_toIntS.f
  refine ev_pos (by omega) (ev_pos (by simp; omega) ?_)
  simpa using this
theorem eqInts_loop (l : List Int) : ∀ (suf pre : List Int), l = pre ++ suf → l.length ≤ maxLen → Ev (fun k => laws_eqIntS.l0 k l l (pre.length : Int)) true := by
  intro suf
  induction suf with
  | nil =>
    intro pre hl hm
    subst hl
    refine Ev.step (fun k => laws_eqIntS.l0.eq_2 ..) ?_
    exact ev_neg (not_lt_end _) (ev_const rfl)
  | cons y suf ih =>
    intro pre hl hm
    subst hl
    refine Ev.step (fun k => laws_eqIntS.l0.eq_2 ..) ?_
    refine ev_pos (lt_mid _ _ _) (ev_pos (by omega) (ev_pos (lt_mid _ _ _) (ev_pos rfl ?_)))
    rw [next_mid _ _ _ hm]
    exact ih (pre ++ [y]) (assoc_mid _ _ _) hm
theorem eqInts (l : List Int) (h : l.length ≤ maxLen) : Ev (fun k => laws_eqIntS.f k l l) true := by
  unfold laws_eqIntS.f
  exact ev_pos rfl (eqInts_loop l l [] rfl h)
theorem markInts_loop : ∀ (suf pre : List Int) (m : Int), (pre ++ suf).length ≤ maxLen → 0 ≤ m → m + (suf.length : Int) ≤ 9223372036854775807 →
    Ev (fun k => laws_markIntS.l0 k (pre ++ suf) m (pre.length : Int)) (m + (suf.length : Int), pre ++ iota m suf.length) := by
  intro suf
  induction suf with
  | nil =>
    intro pre m hm h0 h1
    refine Ev.step (fun k => laws_markIntS.l0.eq_2 ..) ?_
    exact ev_neg (not_lt_end _) (ev_const (by simp [iota]))
  | cons y suf ih =>
    intro pre m hm h0 h1
    simp only [List.length_cons, Int.natCast_add, Int.natCast_one] at h1
    refine Ev.step (fun k => laws_markIntS.l0.eq_2 ..) ?_
    refine ev_pos (lt_mid _ _ _) (ev_pos (by omega) ?_)
    rw [next_mid _ _ _ hm, set_mid, wrap_id (x := m + 1) (by omega) (by omega)]
    have := ih (pre ++ [m]) (m + 1) (by simpa using hm) (by omega) (by omega)
    rw [show ((pre ++ [m]).length : Int) = ((pre ++ [y]).length : Int) by simp] at this
    rw [show (m + ((y :: suf).length : Int), pre ++ iota m (y :: suf).length) = (m + 1 + (suf.length : Int), pre ++ [m] ++ iota (m + 1) suf.length) by simp [iota]; omega]
    exact this
theorem markInts (l : List Int) (m : Int) (h : l.length ≤ maxLen) (h0 : 0 ≤ m) (h1 : m + (l.length : Int) ≤ 9223372036854775807) : Ev (fun k => laws_markIntS.f k l m) (m + (l.length : Int), iota m l.length) := by
  unfold laws_markIntS.f
  exact markInts_loop l [] m h h0 h1
theorem heldInts_loop : ∀ (n : Nat) (pre : List Int) (m : Int), (pre ++ iota m n).length ≤ maxLen → 0 ≤ m → m + (n : Int) ≤ 9223372036854775807 →
    Ev (fun k => laws_heldIntS.l0 k (pre ++ iota m n) m (pre.length : Int)) (m + (n : Int)) := by
  intro n
  induction n with
  | zero =>
    intro pre m hm h0 h1
    refine Ev.step (fun k => laws_heldIntS.l0.eq_2 ..) ?_
    exact ev_neg (not_lt_end _) (ev_const (by simp))
  | succ n ih =>
    intro pre m hm h0 h1
    refine Ev.step (fun k => laws_heldIntS.l0.eq_2 ..) ?_
    simp only [iota] at hm ⊢
    refine ev_pos (lt_mid _ _ _) (ev_pos (by omega) (ev_pos (rd_mid _ _ _) ?_))
    rw [next_mid _ _ _ hm, wrap_id (x := m + 1) (by omega) (by omega), assoc_mid]
    have := ih (pre ++ [m]) (m + 1) (by simpa using hm) (by omega) (by omega)
    rw [show m + ((n + 1 : Nat) : Int) = m + 1 + (n : Int) by omega]
    exact this
theorem heldInts (n : Nat) (m : Int) (h : n ≤ maxLen) (h0 : 0 ≤ m) (h1 : m + (n : Int) ≤ 9223372036854775807) : Ev (fun k => laws_heldIntS.f k (iota m n) m) (m + (n : Int)) := by
  unfold laws_heldIntS.f
  exact heldInts_loop n [] m (by simpa [iota_length] using h) h0 h1
theorem l1All_loop (lo hi : Int) (l : List Int) (hm : l.length ≤ maxLen) : ∀ (suf pre : List Int), l = pre ++ suf →
    Ev (fun k => spec_l1All.l0 k lo hi l (l.length : Int) (pre.length : Int)) (decide (∀ x ∈ suf, lo ≤ x ∧ x ≤ hi)) := by
  intro suf
  induction suf with
  | nil =>
    intro pre hl
    subst hl
    refine Ev.step (fun k => spec_l1All.l0.eq_2 ..) ?_
    exact ev_neg (not_lt_end _) (ev_const (by simp))
  | cons y suf ih =>
    intro pre hl
    subst hl
    refine Ev.step (fun k => spec_l1All.l0.eq_2 ..) ?_
    refine ev_pos (lt_mid _ _ _) (ev_pos (by omega) (ev_pos (lt_mid _ _ _) ?_))
    simp only [in_f, rd_mid, Option.bind_some, decide_eq_true_eq]
    by_cases h : lo ≤ y ∧ y ≤ hi
    · refine ev_pos h ?_
      rw [next_mid _ _ _ hm]
      have := ih (pre ++ [y]) (assoc_mid _ _ _)
      rw [show decide (∀ x ∈ y :: suf, lo ≤ x ∧ x ≤ hi) = decide (∀ x ∈ suf, lo ≤ x ∧ x ≤ hi) by rw [decide_eq_decide]; simp [h]]
      exact this
    · refine ev_neg h (ev_const ?_)
      rw [show decide (∀ x ∈ y :: suf, lo ≤ x ∧ x ≤ hi) = false from decide_eq_false (fun hh => h (hh y List.mem_cons_self))]
theorem l1All (l : List Int) (lo hi : Int) (hm : l.length ≤ maxLen) : Ev (fun k => spec_l1All.f k l lo hi) (decide (∀ x ∈ l, lo ≤ x ∧ x ≤ hi)) := by
  unfold spec_l1All.f
  exact l1All_loop lo hi l hm l [] rfl
theorem l1Has_loop (l : List Int) (n : Int) (hm : l.length ≤ maxLen) : ∀ (suf pre : List Int), l = pre ++ suf →
    Ev (fun k => spec_l1Has.l0 k n l (l.length : Int) (pre.length : Int)) (decide (n ∈ suf)) := by
  intro suf
  induction suf with
  | nil =>
    intro pre hl
    subst hl
    refine Ev.step (fun k => spec_l1Has.l0.eq_2 ..) ?_
    exact ev_neg (not_lt_end _) (ev_const (by simp))
  | cons y suf ih =>
    intro pre hl
    subst hl
    refine Ev.step (fun k => spec_l1Has.l0.eq_2 ..) ?_
    refine ev_pos (lt_mid _ _ _) (ev_pos (by omega) (ev_pos (lt_mid _ _ _) ?_))
    simp only [rd_mid]
    by_cases h : y = n
    · refine ev_pos h (ev_const ?_)
      rw [decide_eq_true (by rw [h]; exact List.mem_cons_self)]
    · refine ev_neg h ?_
      rw [next_mid _ _ _ hm]
      have := ih (pre ++ [y]) (assoc_mid _ _ _)
      rw [show decide (n ∈ y :: suf) = decide (n ∈ suf) by rw [decide_eq_decide, List.mem_cons]; exact ⟨fun hh => hh.resolve_left (fun e => h e.symm), Or.inr⟩]
      exact this
theorem l1Has (l : List Int) (n : Int) (hm : l.length ≤ maxLen) : Ev (fun k => spec_l1Has.f k l n) (decide (n ∈ l)) := by
  unfold spec_l1Has.f
  exact l1Has_loop l n hm l [] rfl
theorem l1Own (l : List Int) (hm : l.length < 17592186044416) : spec_l1Own.f l = some l := by
  unfold spec_l1Own.f
  simp [hm]
/-- The first place of n in a list, -1 for none. -/
def ixOf (n : Int) : List Int → Int → Int
  | [], _ => -1
  | y :: l, i => if n = y then i else ixOf n l (i + 1)
theorem index_loop (l : List Int) (n : Int) (hm : l.length ≤ maxLen) : ∀ (suf pre : List Int), l = pre ++ suf →
    Ev (fun k => slices_Index_int_int.l0 k l n (l.length : Int) (pre.length : Int)) (ixOf n suf (pre.length : Int)) := by
  intro suf
  induction suf with
  | nil =>
    intro pre hl
    subst hl
    refine Ev.step (fun k => slices_Index_int_int.l0.eq_2 ..) ?_
    exact ev_neg (not_lt_end _) (ev_const (by simp [ixOf]))
  | cons y suf ih =>
    intro pre hl
    subst hl
    refine Ev.step (fun k => slices_Index_int_int.l0.eq_2 ..) ?_
    refine ev_pos (lt_mid _ _ _) (ev_pos (by omega) (ev_pos (lt_mid _ _ _) ?_))
    simp only [rd_mid, ixOf]
    by_cases h : n = y
    · refine ev_pos h (ev_const ?_)
      rw [if_pos h]
    · refine ev_neg h ?_
      rw [if_neg h, next_mid _ _ _ hm]
      have := ih (pre ++ [y]) (assoc_mid _ _ _)
      rw [show ixOf n suf ((pre ++ [y]).length : Int) = ixOf n suf ((pre.length : Int) + 1) by simp] at this
      exact this
theorem index (l : List Int) (n : Int) (hm : l.length ≤ maxLen) : Ev (fun k => slices_Index_int_int.f k l n) (ixOf n l 0) := by
  unfold slices_Index_int_int.f
  exact index_loop l n hm l [] rfl
theorem ixOf_none (n : Int) (l : List Int) : ∀ i, n ∉ l → ixOf n l i = -1 := by
  induction l with
  | nil => intro i h; rfl
  | cons y l ih =>
    intro i h
    simp only [List.mem_cons, not_or] at h
    rw [ixOf, if_neg h.1, ih _ h.2]
theorem ixOf_some (n : Int) (l : List Int) : ∀ i : Int, n ∈ l → ∃ j : Nat, ixOf n l i = i + j ∧ l[j]? = some n ∧ n ∉ l.take j := by
  induction l with
  | nil => intro i h; simp at h
  | cons y l ih =>
    intro i h
    by_cases e : n = y
    · exact ⟨0, by rw [ixOf, if_pos e]; simp, by simp [e], by simp⟩
    · obtain ⟨j, h1, h2, h3⟩ := ih (i + 1) ((List.mem_cons.1 h).resolve_left e)
      refine ⟨j + 1, by rw [ixOf, if_neg e, h1]; omega, by simpa using h2, by simp [e, h3]⟩
theorem contains (l : List Int) (n : Int) (hm : l.length ≤ maxLen) : Ev (fun k => slices_Contains_int_int.f k l n) (decide (n ∈ l)) := by
  unfold slices_Contains_int_int.f
  refine ev_bind (index l n hm) (ev_const ?_)
  rw [Option.some.injEq, decide_eq_decide]
  by_cases h : n ∈ l
  · obtain ⟨j, h1, _⟩ := ixOf_some n l 0 h
    exact ⟨fun _ => h, fun _ => by omega⟩
  · rw [ixOf_none n l 0 h]
    exact ⟨fun h1 => absurd h1 (by decide), fun h1 => absurd h1 h⟩
end Go.Proofs.Ytkfedkckakegjaa.A
end

section
/- What marking and holding come to: the numbers m, m + 1, .. through all rows. -/
namespace Go.Proofs.Ytkfedkckakegjaa.A
open Go.RowKit Go.Proofs.YtkfedkckakegjaaW.PrintWords Go.Proofs.YtkfedkckakegjaaW.PrintLast Go.Proofs.YtkfedkckakegjaaW.PrintMore Go.Proofs.Ytkfedkckakegjaa.P Go.Proofs.Ytkfedkckakegjaa.T
set_option linter.unusedVariables false
set_option linter.unusedSimpArgs false

def sumLen : List (List Int) → Nat
  | [] => 0
  | x :: l => x.length + sumLen l
theorem sumLen_le (b : Nat) : ∀ l : List (List Int), (∀ x ∈ l, x.length ≤ b) → sumLen l ≤ l.length * b := by
  intro l
  induction l with
  | nil => intro _; simp [sumLen]
  | cons x l ih =>
    intro h
    have h1 := h x List.mem_cons_self
    have h2 := ih (fun y hy => h y (List.mem_cons_of_mem _ hy))
    simp only [sumLen, List.length_cons, Nat.succ_mul]
    omega
def iotaRows : Int → List (List Int) → List (List Int)
  | _, [] => []
  | m, x :: l => iota m x.length :: iotaRows (m + (x.length : Int)) l
theorem iotaRows_length : ∀ (l : List (List Int)) (m : Int), (iotaRows m l).length = l.length := by
  intro l
  induction l with
  | nil => intro m; rfl
  | cons x l ih => intro m; simp [iotaRows, ih]
theorem rdr_mid (pre : List (List Int)) (y : List Int) (suf : List (List Int)) : rd_L1 (pre ++ y :: suf) (pre.length : Int) = y := by simp [rd_L1]
theorem markSS : ∀ (l : List (List Int)) (m : Int), (∀ x ∈ l, x.length ≤ maxLen) → 0 ≤ m → m + (sumLen l : Int) ≤ 9223372036854775807 →
    Ev (fun k => laws_markIntSS.f k l m) (m + (sumLen l : Int), iotaRows m l) := by
  intro l
  induction l with
  | nil => intro m _ _ _; exact ev_const (by simp [laws_markIntSS.f, sumLen, iotaRows])
  | cons x l ih =>
    intro m hr h0 h1
    simp only [sumLen, Int.natCast_add] at h1
    have hx := markInts x m (hr x List.mem_cons_self) h0 (by omega)
    have hl := ih (m + (x.length : Int)) (fun y hy => hr y (List.mem_cons_of_mem _ hy)) (by omega) (by omega)
    unfold laws_markIntSS.f
    refine ev_bind hx (ev_bind hl (ev_const ?_))
    simp only [sumLen, iotaRows, Int.natCast_add, Option.some.injEq, Prod.mk.injEq, and_true]
    omega
theorem markAu (L : Int) (N : List (List Int)) (F : List Int) (hr : ∀ x ∈ N, x.length ≤ maxLen) (hF : F.length ≤ maxLen) (h1 : (sumLen N : Int) + F.length ≤ 9000000000000000000) :
    Ev (fun k => laws_markAutomaton.f k L N F 1) (1 + (sumLen N : Int) + F.length, iotaRows 1 N, iota (1 + (sumLen N : Int)) F.length) := by
  unfold laws_markAutomaton.f
  exact ev_bind (markSS N 1 hr (by omega) (by omega)) (ev_bind (markInts F _ hF (by omega) (by omega)) (ev_const rfl))
theorem heldSS_loop : ∀ (suf : List (List Int)) (pre : List (List Int)) (m : Int), (pre ++ iotaRows m suf).length ≤ maxLen → (∀ x ∈ suf, x.length ≤ maxLen) → 0 ≤ m → m + (sumLen suf : Int) ≤ 9223372036854775807 →
    Ev (fun k => laws_heldIntSS.l0 k (pre ++ iotaRows m suf) m (pre.length : Int)) (m + (sumLen suf : Int)) := by
  intro suf
  induction suf with
  | nil =>
    intro pre m hm _ _ _
    exact Ev.step (fun k => laws_heldIntSS.l0.eq_2 ..) (ev_neg (not_lt_end _) (ev_const (by simp [sumLen])))
  | cons y suf ih =>
    intro pre m hm hr h0 h1
    simp only [sumLen, Int.natCast_add] at h1
    simp only [iotaRows] at hm ⊢
    refine Ev.step (fun k => laws_heldIntSS.l0.eq_2 ..) (ev_pos (lt_mid _ _ _) (ev_pos (by omega) ?_))
    rw [rdr_mid]
    refine ev_bind (heldInts y.length m (hr y List.mem_cons_self) h0 (by omega)) (ev_neg (by omega) ?_)
    rw [next_mid _ _ _ hm, assoc_mid]
    have := ih (pre ++ [iota m y.length]) (m + (y.length : Int)) (by rw [← assoc_mid]; exact hm) (fun x hx => hr x (List.mem_cons_of_mem _ hx)) (by omega) (by omega)
    rw [show m + (sumLen (y :: suf) : Int) = m + (y.length : Int) + (sumLen suf : Int) by simp only [sumLen, Int.natCast_add]; omega]
    exact this
theorem heldSS (l : List (List Int)) (m : Int) (hm : l.length ≤ maxLen) (hr : ∀ x ∈ l, x.length ≤ maxLen) (h0 : 0 ≤ m) (h1 : m + (sumLen l : Int) ≤ 9223372036854775807) :
    Ev (fun k => laws_heldIntSS.f k (iotaRows m l) m) (m + (sumLen l : Int)) := by
  unfold laws_heldIntSS.f
  exact heldSS_loop l [] m (by rw [List.nil_append, iotaRows_length]; exact hm) hr h0 h1
theorem heldAu (L : Int) (N : List (List Int)) (F : List Int) (hN : N.length ≤ maxLen) (hr : ∀ x ∈ N, x.length ≤ maxLen) (hF : F.length ≤ maxLen) (h1 : (sumLen N : Int) + F.length ≤ 9000000000000000000) :
    Ev (fun k => laws_heldAutomaton.f k L (iotaRows 1 N) (iota (1 + (sumLen N : Int)) F.length) 1) (1 + (sumLen N : Int) + F.length) := by
  unfold laws_heldAutomaton.f
  refine ev_bind (heldSS N 1 hN hr (by omega) (by omega)) (ev_neg (by omega) (ev_bind (heldInts F.length _ hF (by omega) (by omega)) (ev_neg (by omega) (ev_const rfl))))
end Go.Proofs.Ytkfedkckakegjaa.A
end

section
/- What the printed functions on automata come to: sizes, copies, comparison, the tests whether an automaton or a word is valid, and the state to which a word leads. -/
namespace Go.Proofs.Ytkfedkckakegjaa.A
open Go.RowKit Go.Proofs.YtkfedkckakegjaaW.PrintWords Go.Proofs.YtkfedkckakegjaaW.PrintLast Go.Proofs.YtkfedkckakegjaaW.PrintMore Go.Proofs.Ytkfedkckakegjaa.P Go.Proofs.Ytkfedkckakegjaa.T
set_option linter.unusedVariables false
set_option linter.unusedSimpArgs false

theorem rdl_mid (pre : List (List Int)) (y : List Int) (suf : List (List Int)) : rd_L1 (pre ++ y :: suf) (pre.length : Int) = y := by simp [rd_L1]
theorem rd_mem {l : List Int} {i : Int} (h0 : 0 ≤ i) (h1 : i < l.length) : rd l i ∈ l := by
  obtain ⟨n, rfl⟩ := Int.eq_ofNat_of_zero_le h0
  simp only [rd, Int.toNat_natCast]
  rw [List.getD_eq_getElem?_getD, List.getElem?_eq_getElem (by omega)]
  exact List.getElem_mem _
theorem rdl_mem {l : List (List Int)} {i : Int} (h0 : 0 ≤ i) (h1 : i < l.length) : rd_L1 l i ∈ l := by
  obtain ⟨n, rfl⟩ := Int.eq_ofNat_of_zero_le h0
  simp only [rd_L1, Int.toNat_natCast]
  rw [List.getD_eq_getElem?_getD, List.getElem?_eq_getElem (by omega)]
  exact List.getElem_mem _
/-- What is left of a when the lengths of all rows are taken off it, -1 if it does not suffice. -/
def szRows : Int → List (List Int) → Int
  | a, [] => a
  | a, x :: l => if a - (x.length : Int) < 0 then -1 else szRows (a - (x.length : Int)) l
theorem szRows_le : ∀ (l : List (List Int)) (a : Int), 0 ≤ szRows a l → 0 ≤ a → szRows a l ≤ a ∧ ∀ x ∈ l, (x.length : Int) ≤ a := by
  intro l
  induction l with
  | nil => intro a h _; simp [szRows]
  | cons x l ih =>
    intro a h h0
    simp only [szRows] at h ⊢
    by_cases c : a - (x.length : Int) < 0
    · rw [if_pos c] at h; omega
    · rw [if_neg c] at h ⊢
      obtain ⟨h1, h2⟩ := ih _ h (by omega)
      refine ⟨by omega, fun y hy => ?_⟩
      rcases List.mem_cons.1 hy with rfl | hy
      · omega
      · have := h2 y hy; omega
theorem szSS_loop (l : List (List Int)) (hm : l.length ≤ maxLen) (hr : ∀ x ∈ l, x.length ≤ maxLen) : ∀ (suf pre : List (List Int)) (a : Int), l = pre ++ suf → 0 ≤ a → a ≤ 1048576 →
    Ev (fun k => laws_szIntSS.l0 k l a (pre.length : Int)) (szRows a suf) := by
  intro suf
  induction suf with
  | nil =>
    intro pre a hl h0 h1
    subst hl
    exact Ev.step (fun k => laws_szIntSS.l0.eq_2 ..) (ev_neg (not_lt_end _) (ev_const rfl))
  | cons y suf ih =>
    intro pre a hl h0 h1
    subst hl
    refine Ev.step (fun k => laws_szIntSS.l0.eq_2 ..) (ev_pos (lt_mid _ _ _) (ev_pos (by omega) ?_))
    rw [rdl_mid]
    refine ev_bindc (szInts y a ⟨h0, h1⟩ (hr y (by simp))) ?_
    simp only [szRows]
    by_cases c : a - (y.length : Int) < 0
    · simp only [if_pos c]
      exact ev_pos (by omega) (ev_const rfl)
    · simp only [if_neg c]
      rw [next_mid _ _ _ hm]
      exact ih (pre ++ [y]) _ (assoc_mid _ _ _) (by omega) (by omega)
theorem szSS (l : List (List Int)) (hm : l.length ≤ maxLen) (hr : ∀ x ∈ l, x.length ≤ maxLen) : Ev (fun k => laws_szIntSS.f k l 1048576) (if 1048576 - (l.length : Int) < 0 then -1 else szRows (1048576 - (l.length : Int)) l) := by
  unfold laws_szIntSS.f
  rw [wrap_id (x := 1048576 - (l.length : Int)) (by simp only [maxLen] at hm; omega) (by omega)]
  by_cases c : 1048576 - (l.length : Int) < 0
  · rw [if_pos c]; exact ev_pos c (ev_const rfl)
  · rw [if_neg c]; exact ev_neg c (szSS_loop l hm hr l [] _ rfl (by omega) (by omega))
/-- The size: either it is too great, or all parts are small. -/
theorem szAu (L : Int) (N : List (List Int)) (F : List Int) (hN : N.length ≤ maxLen) (hr : ∀ x ∈ N, x.length ≤ maxLen) (hF : F.length ≤ maxLen) :
    ∃ s, Ev (fun k => laws_szAutomaton.f k L N F 1048576) s ∧ (0 ≤ s → s ≤ 1048576 ∧ N.length ≤ 1048576 ∧ (∀ x ∈ N, x.length ≤ 1048576) ∧ F.length ≤ 1048576) := by
  unfold laws_szAutomaton.f
  by_cases c : 1048576 - (N.length : Int) < 0
  · refine ⟨-1, ev_bind (szSS N hN hr) ?_, by omega⟩
    rw [if_pos c]
    exact ev_pos (by omega) (ev_const rfl)
  · by_cases c2 : szRows (1048576 - (N.length : Int)) N < 0
    · refine ⟨-1, ev_bind (szSS N hN hr) ?_, by omega⟩
      rw [if_neg c]
      exact ev_pos c2 (ev_const rfl)
    · obtain ⟨h1, h2⟩ := szRows_le N (1048576 - (N.length : Int)) (by omega) (by omega)
      by_cases c3 : szRows (1048576 - (N.length : Int)) N - (F.length : Int) < 0
      · refine ⟨-1, ev_bind (szSS N hN hr) ?_, by omega⟩
        rw [if_neg c]
        refine ev_neg c2 (ev_bindc (szInts F _ (by omega) hF) ?_)
        rw [if_pos c3]
        exact ev_pos (by omega) (ev_const rfl)
      · refine ⟨szRows (1048576 - (N.length : Int)) N - (F.length : Int), ev_bind (szSS N hN hr) ?_, fun _ => ⟨?_, by omega, fun x hx => by have := h2 x hx; omega, by omega⟩⟩
        · rw [if_neg c]
          refine ev_neg c2 (ev_bindc (szInts F _ (by omega) hF) ?_)
          rw [if_neg c3]
          exact ev_neg c3 (ev_const rfl)
        · omega
theorem ev_all {l : List (List Int)} (h : ∀ x ∈ l, Ev (fun k => laws_toIntS.f k x) x) : ∃ K, ∀ k, K ≤ k → ∀ x ∈ l, laws_toIntS.f k x = some x := by
  induction l with
  | nil => exact ⟨0, fun _ _ x hx => by simp at hx⟩
  | cons y l ih =>
    obtain ⟨K, hK⟩ := ih (fun x hx => h x (List.mem_cons_of_mem _ hx))
    obtain ⟨K2, hK2⟩ := h y List.mem_cons_self
    refine ⟨K + K2, fun k hk x hx => ?_⟩
    rcases List.mem_cons.1 hx with rfl | hx
    · exact hK2 k (by omega)
    · exact hK k (by omega) x hx
theorem toSS (l : List (List Int)) (h : l.length ≤ 1048576) (hr : ∀ x ∈ l, x.length ≤ 1048576) : Ev (fun k => laws_toIntSS.f k l) l := by
  obtain ⟨K, hK⟩ := ev_all (fun x hx => toInts x (hr x hx))
  refine ⟨K, fun k hk => ?_⟩
  show laws_toIntSS.f k l = some l
  unfold laws_toIntSS.f
  rw [if_pos ⟨by omega, hK k hk⟩]
theorem toAu (L : Int) (N : List (List Int)) (F : List Int) (h : N.length ≤ 1048576) (hr : ∀ x ∈ N, x.length ≤ 1048576) (hF : F.length ≤ 1048576) : Ev (fun k => laws_toAutomaton.f k L N F) (L, N, F) := by
  unfold laws_toAutomaton.f
  exact ev_bind (toSS N h hr) (ev_bind (toInts F hF) (ev_const rfl))
theorem eqSS_loop (l : List (List Int)) (hr : ∀ x ∈ l, x.length ≤ maxLen) : ∀ (suf pre : List (List Int)), l = pre ++ suf → l.length ≤ maxLen → Ev (fun k => laws_eqIntSS.l0 k l l (pre.length : Int)) true := by
  intro suf
  induction suf with
  | nil =>
    intro pre hl hm
    subst hl
    exact Ev.step (fun k => laws_eqIntSS.l0.eq_2 ..) (ev_neg (not_lt_end _) (ev_const rfl))
  | cons y suf ih =>
    intro pre hl hm
    subst hl
    refine Ev.step (fun k => laws_eqIntSS.l0.eq_2 ..) (ev_pos (lt_mid _ _ _) (ev_pos (by omega) (ev_pos (lt_mid _ _ _) ?_)))
    rw [rdl_mid]
    refine ev_bind (eqInts y (hr y (by simp))) (ev_pos rfl ?_)
    rw [next_mid _ _ _ hm]
    exact ih (pre ++ [y]) (assoc_mid _ _ _) hm
theorem eqSS (l : List (List Int)) (hm : l.length ≤ maxLen) (hr : ∀ x ∈ l, x.length ≤ maxLen) : Ev (fun k => laws_eqIntSS.f k l l) true := by
  unfold laws_eqIntSS.f
  exact ev_pos rfl (eqSS_loop l hr l [] rfl hm)
theorem eqAu (L : Int) (N : List (List Int)) (F : List Int) (hN : N.length ≤ maxLen) (hr : ∀ x ∈ N, x.length ≤ maxLen) (hF : F.length ≤ maxLen) : Ev (fun k => laws_eqAutomaton.f k L N F L N F) true := by
  unfold laws_eqAutomaton.f
  exact ev_pos rfl (ev_bind (eqSS N hN hr) (ev_pos rfl (ev_bind (eqInts F hF) (ev_const rfl))))
/-- Strictly increasing behind p, and within bounds. -/
def risB (lo hi : Int) : Option Int → List Int → Bool
  | _, [] => true
  | p, y :: l => decide (lo ≤ y ∧ y ≤ hi) && (match p with | none => true | some q => decide (q < y)) && risB lo hi (some y) l
theorem risB_range {lo hi : Int} : ∀ {l : List Int} {p : Option Int}, risB lo hi p l = true → ∀ y ∈ l, lo ≤ y ∧ y ≤ hi := by
  intro l
  induction l with
  | nil => intro p _ y hy; simp at hy
  | cons x l ih =>
    intro p h y hy
    simp only [risB, Bool.and_eq_true, decide_eq_true_eq] at h
    rcases List.mem_cons.1 hy with rfl | hy
    · exact h.1.1
    · exact ih h.2 y hy
theorem risB_above {lo hi : Int} : ∀ {l : List Int} {q : Int}, risB lo hi (some q) l = true → ∀ y ∈ l, q < y := by
  intro l
  induction l with
  | nil => intro p _ y hy; simp at hy
  | cons x l ih =>
    intro q h y hy
    simp only [risB, Bool.and_eq_true, decide_eq_true_eq] at h
    rcases List.mem_cons.1 hy with rfl | hy
    · exact h.1.2
    · have := ih h.2 y hy; omega
theorem risB_pairwise {lo hi : Int} : ∀ {l : List Int} {p : Option Int}, risB lo hi p l = true → l.Pairwise (· < ·) := by
  intro l
  induction l with
  | nil => intro p _; exact List.Pairwise.nil
  | cons x l ih =>
    intro p h
    simp only [risB, Bool.and_eq_true, decide_eq_true_eq] at h
    exact List.Pairwise.cons (fun y hy => risB_above h.2 y hy) (ih h.2)
def RowOk (L n : Int) (r : List Int) : Prop := (r.length : Int) = L ∧ ∀ x ∈ r, 0 ≤ x ∧ x ≤ n - 1
instance (L n : Int) (r : List Int) : Decidable (RowOk L n r) := by unfold RowOk; infer_instance
def AuOk (L : Int) (N : List (List Int)) (F : List Int) : Prop := (1 ≤ L ∧ L ≤ 3) ∧ (1 ≤ (N.length : Int) ∧ (N.length : Int) ≤ 12) ∧ (∀ r ∈ N, RowOk L N.length r) ∧ risB 0 ((N.length : Int) - 1) none F = true
instance (L : Int) (N : List (List Int)) (F : List Int) : Decidable (AuOk L N F) := by unfold AuOk; infer_instance
theorem last_at (p : List Int) (q : Int) (suf : List Int) : rd (p ++ [q] ++ suf) (((p ++ [q]).length : Int) - 1) = q := by
  have : ((((p ++ [q]).length : Nat) : Int) - 1).toNat = p.length := by simp
  simp [rd]
theorem l1Rising_loop (lo hi : Int) (l : List Int) (hm : l.length ≤ maxLen) : ∀ (suf pre : List Int), l = pre ++ suf →
    Ev (fun k => spec_l1Rising.l0 k l lo hi l (l.length : Int) (pre.length : Int)) (risB lo hi pre.getLast? suf) := by
  intro suf
  induction suf with
  | nil =>
    intro pre hl
    subst hl
    exact Ev.step (fun k => spec_l1Rising.l0.eq_2 ..) (ev_neg (not_lt_end _) (ev_const (by simp [risB])))
  | cons y suf ih =>
    intro pre hl
    subst hl
    have hl2 := hm
    simp only [List.length_append, List.length_cons, maxLen] at hl2
    refine Ev.step (fun k => spec_l1Rising.l0.eq_2 ..) (ev_pos (lt_mid _ _ _) (ev_pos (by omega) (ev_pos (lt_mid _ _ _) ?_)))
    simp only [in_f, rd_mid, Option.bind_some, decide_eq_true_eq, risB]
    have go := ih (pre ++ [y]) (assoc_mid _ _ _)
    rw [List.getLast?_concat, ← next_mid _ _ _ hm] at go
    by_cases h : lo ≤ y ∧ y ≤ hi
    · refine ev_pos h ?_
      rw [decide_eq_true h, Bool.true_and]
      rcases List.eq_nil_or_concat pre with rfl | ⟨p, q, rfl⟩
      · refine ev_neg (by simp) ?_
        simpa using go
      · rw [List.concat_eq_append] at *
        refine ev_pos (by simp only [List.length_append, List.length_singleton]; omega) ?_
        rw [wrap_id (x := ((p ++ [q]).length : Int) - 1) (by omega) (by omega)]
        refine ev_pos (by simp) (ev_pos (by simp; omega) ?_)
        rw [last_at p q (y :: suf), List.getLast?_concat]
        simp only [ge_iff_le]
        by_cases hq : y ≤ q
        · refine ev_pos hq (ev_const ?_)
          rw [decide_eq_false (by omega), Bool.false_and]
        · refine ev_neg hq ?_
          rw [decide_eq_true (by omega), Bool.true_and]
          exact go
    · refine ev_neg h (ev_const ?_)
      rw [decide_eq_false h, Bool.false_and, Bool.false_and]
theorem l1Rising (l : List Int) (lo hi : Int) (hm : l.length ≤ maxLen) : Ev (fun k => spec_l1Rising.f k l lo hi) (risB lo hi none l) := by
  unfold spec_l1Rising.f
  exact l1Rising_loop lo hi l hm l [] rfl
theorem auGood_loop (L : Int) (N : List (List Int)) (F : List Int) (hN : N.length ≤ maxLen) (hr : ∀ x ∈ N, x.length ≤ maxLen) (hF : F.length ≤ maxLen) : ∀ (suf pre : List (List Int)), N = pre ++ suf →
    Ev (fun k => spec_auGood.l0 k N (N.length : Int) (pre.length : Int) L N F) (decide ((1 ≤ L ∧ L ≤ 3) ∧ (1 ≤ (N.length : Int) ∧ (N.length : Int) ≤ 12) ∧ (∀ r ∈ suf, RowOk L N.length r) ∧ risB 0 ((N.length : Int) - 1) none F = true)) := by
  have hl2 := hN
  simp only [maxLen] at hl2
  have hw : wrap64 ((N.length : Int) - 1) = (N.length : Int) - 1 := wrap_id (by omega) (by omega)
  intro suf
  induction suf with
  | nil =>
    intro pre hl
    refine Ev.step (fun k => spec_auGood.l0.eq_2 ..) (ev_neg (by rw [hl]; exact not_lt_end _) ?_)
    simp only [in_f, Option.bind_some, decide_eq_true_eq, hw]
    by_cases h1 : 1 ≤ L ∧ L ≤ 3
    · refine ev_pos h1 ?_
      by_cases h2 : 1 ≤ (N.length : Int) ∧ (N.length : Int) ≤ 12
      · refine ev_pos h2 (ev_bind (l1Rising F 0 _ hF) (ev_const ?_))
        rw [Option.some.injEq, Bool.eq_iff_iff, decide_eq_true_eq]
        exact ⟨fun h => ⟨h1, h2, fun r hr => by simp at hr, h⟩, fun h => h.2.2.2⟩
      · exact ev_neg h2 (ev_const (by rw [decide_eq_false (fun h => h2 h.2.1)]))
    · exact ev_neg h1 (ev_const (by rw [decide_eq_false (fun h => h1 h.1)]))
  | cons y suf ih =>
    intro pre hl
    refine Ev.step (fun k => spec_auGood.l0.eq_2 ..) (ev_pos (by rw [hl]; exact lt_mid _ _ _) (ev_pos (by omega) (ev_pos (by rw [hl]; exact lt_mid _ _ _) ?_)))
    have hrd : rd_L1 N (pre.length : Int) = y := by rw [hl]; exact rdl_mid _ _ _
    have hnx : wrap64 ((pre.length : Int) + 1) = ((pre ++ [y]).length : Int) := next_mid pre y suf (by rw [← hl]; exact hN)
    simp only [hrd, hnx, hw]
    by_cases h1 : (y.length : Int) = L
    · refine ev_pos h1 (ev_bind (l1All y 0 _ (hr y (by rw [hl]; simp))) ?_)
      simp only [decide_eq_true_eq]
      by_cases h2 : ∀ x ∈ y, 0 ≤ x ∧ x ≤ (N.length : Int) - 1
      · refine ev_pos h2 ?_
        have := ih (pre ++ [y]) (by rw [hl]; exact assoc_mid _ _ _)
        rw [decide_eq_decide.2 (show _ ↔ ((1 ≤ L ∧ L ≤ 3) ∧ (1 ≤ (N.length : Int) ∧ (N.length : Int) ≤ 12) ∧ (∀ r ∈ suf, RowOk L N.length r) ∧ risB 0 ((N.length : Int) - 1) none F = true) from by
          simp only [List.mem_cons, forall_eq_or_imp]
          exact ⟨fun h => ⟨h.1, h.2.1, h.2.2.1.2, h.2.2.2⟩, fun h => ⟨h.1, h.2.1, ⟨⟨h1, h2⟩, h.2.2.1⟩, h.2.2.2⟩⟩)]
        exact this
      · exact ev_neg h2 (ev_const (by rw [decide_eq_false (fun h => h2 (h.2.2.1 y List.mem_cons_self).2)]))
    · exact ev_neg h1 (ev_const (by rw [decide_eq_false (fun h => h1 (h.2.2.1 y List.mem_cons_self).1)]))
theorem auGood (L : Int) (N : List (List Int)) (F : List Int) (hN : N.length ≤ maxLen) (hr : ∀ x ∈ N, x.length ≤ maxLen) (hF : F.length ≤ maxLen) : Ev (fun k => spec_auGood.f k L N F) (decide (AuOk L N F)) := by
  unfold spec_auGood.f
  exact auGood_loop L N F hN hr hF N [] rfl
theorem isAu_fin (L : Int) (N : List (List Int)) (F : List Int) (hN : N.length ≤ maxLen) (hF : F.length ≤ maxLen) : ∀ (suf pre : List Int), F = pre ++ suf →
    Ev (fun k => impl_IsAutomaton.l2 k F (F.length : Int) (pre.length : Int) L N F) (risB 0 ((N.length : Int) - 1) pre.getLast? suf) := by
  intro suf
  induction suf with
  | nil =>
    intro pre hl
    subst hl
    exact Ev.step (fun k => impl_IsAutomaton.l2.eq_2 ..) (ev_neg (not_lt_end _) (ev_const (by simp [risB])))
  | cons y suf ih =>
    intro pre hl
    subst hl
    have hl2 := hF
    simp only [List.length_append, List.length_cons, maxLen] at hl2
    refine Ev.step (fun k => impl_IsAutomaton.l2.eq_2 ..) (ev_pos (lt_mid _ _ _) (ev_pos (by omega) (ev_pos (lt_mid _ _ _) ?_)))
    simp only [rd_mid, risB]
    have go := ih (pre ++ [y]) (assoc_mid _ _ _)
    rw [List.getLast?_concat, ← next_mid _ _ _ hF] at go
    by_cases h : 0 ≤ y ∧ y ≤ (N.length : Int) - 1
    · refine ev_neg (by omega) (ev_neg (by omega) ?_)
      rw [decide_eq_true h, Bool.true_and]
      rcases List.eq_nil_or_concat pre with rfl | ⟨p, q, rfl⟩
      · refine ev_neg (by simp) ?_
        simpa using go
      · rw [List.concat_eq_append] at *
        refine ev_pos (by simp only [List.length_append, List.length_singleton]; omega) ?_
        rw [wrap_id (x := ((p ++ [q]).length : Int) - 1) (by omega) (by omega)]
        refine ev_pos (by simp) (ev_pos (by simp; omega) ?_)
        rw [last_at p q (y :: suf), List.getLast?_concat]
        by_cases hq : y ≤ q
        · refine ev_pos hq (ev_const ?_)
          simp only
          rw [decide_eq_false (by omega), Bool.false_and]
        · refine ev_neg hq ?_
          simp only
          rw [decide_eq_true (by omega), Bool.true_and]
          exact go
    · rw [decide_eq_false h, Bool.false_and, Bool.false_and]
      by_cases h0 : y < 0
      · exact ev_pos h0 (ev_const rfl)
      · exact ev_neg h0 (ev_pos (by omega) (ev_const rfl))
theorem isAu_row (L : Int) (N : List (List Int)) (F : List Int) (i : Int) (y : List Int) (hy : y.length ≤ maxLen) (R : Bool) (hR : Ev (fun k => impl_IsAutomaton.l0 k N (N.length : Int) (wrap64 (i + 1)) L N F) R) : ∀ (suf pre : List Int), y = pre ++ suf →
    Ev (fun k => impl_IsAutomaton.l1 k N (N.length : Int) i y (y.length : Int) (pre.length : Int) L N F) (decide (∀ x ∈ suf, 0 ≤ x ∧ x ≤ (N.length : Int) - 1) && R) := by
  intro suf
  induction suf with
  | nil =>
    intro pre hl
    subst hl
    refine Ev.step (fun k => impl_IsAutomaton.l1.eq_2 ..) (ev_neg (not_lt_end _) ?_)
    simpa using hR
  | cons x suf ih =>
    intro pre hl
    subst hl
    refine Ev.step (fun k => impl_IsAutomaton.l1.eq_2 ..) (ev_pos (lt_mid _ _ _) (ev_pos (by omega) (ev_pos (lt_mid _ _ _) ?_)))
    simp only [rd_mid]
    by_cases h : 0 ≤ x ∧ x ≤ (N.length : Int) - 1
    · refine ev_neg (by omega) (ev_neg (by omega) ?_)
      rw [next_mid _ _ _ hy]
      have := ih (pre ++ [x]) (assoc_mid _ _ _)
      rw [show decide (∀ z ∈ x :: suf, 0 ≤ z ∧ z ≤ (N.length : Int) - 1) = decide (∀ z ∈ suf, 0 ≤ z ∧ z ≤ (N.length : Int) - 1) by rw [decide_eq_decide]; simp [h]]
      exact this
    · rw [show decide (∀ z ∈ x :: suf, 0 ≤ z ∧ z ≤ (N.length : Int) - 1) = false from decide_eq_false (fun hh => h (hh x List.mem_cons_self)), Bool.false_and]
      by_cases h0 : x < 0
      · exact ev_pos h0 (ev_const rfl)
      · exact ev_neg h0 (ev_pos (by omega) (ev_const rfl))
theorem isAu_loop (L : Int) (N : List (List Int)) (F : List Int) (hN : N.length ≤ maxLen) (hr : ∀ x ∈ N, x.length ≤ maxLen) (hF : F.length ≤ maxLen) : ∀ (suf pre : List (List Int)), N = pre ++ suf →
    Ev (fun k => impl_IsAutomaton.l0 k N (N.length : Int) (pre.length : Int) L N F) (decide (∀ r ∈ suf, RowOk L N.length r) && risB 0 ((N.length : Int) - 1) none F) := by
  intro suf
  induction suf with
  | nil =>
    intro pre hl
    refine Ev.step (fun k => impl_IsAutomaton.l0.eq_2 ..) (ev_neg (by rw [hl]; exact not_lt_end _) ?_)
    have := isAu_fin L N F hN hF F [] rfl
    simpa using this
  | cons y suf ih =>
    intro pre hl
    refine Ev.step (fun k => impl_IsAutomaton.l0.eq_2 ..) (ev_pos (by rw [hl]; exact lt_mid _ _ _) (ev_pos (by omega) (ev_pos (by rw [hl]; exact lt_mid _ _ _) ?_)))
    have hrd : rd_L1 N (pre.length : Int) = y := by rw [hl]; exact rdl_mid _ _ _
    have hnx : wrap64 ((pre.length : Int) + 1) = ((pre ++ [y]).length : Int) := next_mid pre y suf (by rw [← hl]; exact hN)
    simp only [hrd]
    by_cases h1 : (y.length : Int) = L
    · refine ev_pos h1 ?_
      have h2 := ih (pre ++ [y]) (by rw [hl]; exact assoc_mid _ _ _)
      rw [← hnx] at h2
      have := isAu_row L N F _ y (hr y (by rw [hl]; simp)) _ h2 y [] rfl
      rw [show (decide (∀ r ∈ y :: suf, RowOk L N.length r) && risB 0 ((N.length : Int) - 1) none F) = (decide (∀ x ∈ y, 0 ≤ x ∧ x ≤ (N.length : Int) - 1) && (decide (∀ r ∈ suf, RowOk L N.length r) && risB 0 ((N.length : Int) - 1) none F)) from by
        rw [← Bool.and_assoc]
        congr 1
        rw [Bool.eq_iff_iff, Bool.and_eq_true, decide_eq_true_eq, decide_eq_true_eq, decide_eq_true_eq]
        simp only [List.mem_cons, forall_eq_or_imp]
        exact ⟨fun h => ⟨h.1.2, h.2⟩, fun h => ⟨⟨h1, h.1⟩, h.2⟩⟩]
      exact this
    · refine ev_neg h1 (ev_const ?_)
      rw [show decide (∀ r ∈ y :: suf, RowOk L N.length r) = false from decide_eq_false (fun h => h1 (h y List.mem_cons_self).1), Bool.false_and]
theorem isAu (L : Int) (N : List (List Int)) (F : List Int) (hN : N.length ≤ maxLen) (hr : ∀ x ∈ N, x.length ≤ maxLen) (hF : F.length ≤ maxLen) : Ev (fun k => impl_IsAutomaton.f k L N F) (decide (AuOk L N F)) := by
  unfold impl_IsAutomaton.f
  have no : ∀ b, b = true → ¬ AuOk L N F → Ev (fun k => impl_IsAutomaton.j0 k b L N F) (decide (AuOk L N F)) := by
    intro b hb h
    rw [decide_eq_false h]
    exact Ev.step (fun k => impl_IsAutomaton.j0.eq_2 ..) (ev_pos hb (ev_const rfl))
  by_cases h1 : L < 1
  · exact ev_pos h1 (no _ rfl (fun h => by have := h.1; omega))
  refine ev_neg h1 ?_
  by_cases h2 : L > 3
  · exact ev_pos h2 (no _ rfl (fun h => by have := h.1; omega))
  refine ev_neg h2 ?_
  by_cases h3 : (N.length : Int) < 1
  · exact ev_pos h3 (no _ rfl (fun h => by have := h.2.1; omega))
  refine ev_neg h3 ?_
  by_cases h4 : (N.length : Int) > 12
  · exact no _ (decide_eq_true h4) (fun h => by have := h.2.1; omega)
  · rw [decide_eq_false h4]
    refine Ev.step (fun k => impl_IsAutomaton.j0.eq_2 ..) (ev_neg (by simp) ?_)
    have := isAu_loop L N F hN hr hF N [] rfl
    rw [show decide (AuOk L N F) = (decide (∀ r ∈ N, RowOk L N.length r) && risB 0 ((N.length : Int) - 1) none F) from by
      rw [Bool.eq_iff_iff, Bool.and_eq_true, decide_eq_true_eq, decide_eq_true_eq]
      exact ⟨fun h => ⟨h.2.2.1, h.2.2.2⟩, fun h => ⟨by omega, by omega, h.1, h.2⟩⟩]
    exact this
def WordOk (L : Int) (w : List Int) : Prop := (w.length : Int) ≤ 40 ∧ ∀ x ∈ w, 0 ≤ x ∧ x ≤ L - 1
instance (L : Int) (w : List Int) : Decidable (WordOk L w) := by unfold WordOk; infer_instance
theorem auWord (L : Int) (N : List (List Int)) (F w : List Int) (hL : 1 ≤ L ∧ L ≤ 3) (hw : w.length ≤ maxLen) : Ev (fun k => spec_auWord.f k L N F w) (decide (WordOk L w)) := by
  unfold spec_auWord.f
  rw [wrap_id (x := L - 1) (by omega) (by omega)]
  by_cases h : (w.length : Int) ≤ 40
  · refine ev_pos h (ev_bind (l1All w 0 _ hw) (ev_const ?_))
    rw [Option.some.injEq, decide_eq_decide]
    exact ⟨fun h2 => ⟨h, h2⟩, fun h2 => h2.2⟩
  · exact ev_neg h (ev_const (by rw [decide_eq_false (fun h2 : WordOk L w => h h2.1)]))
theorem isWord_loop (L : Int) (w : List Int) (hw : w.length ≤ maxLen) : ∀ (suf pre : List Int), w = pre ++ suf →
    Ev (fun k => impl_isWord.l0 k L w (w.length : Int) (pre.length : Int)) (decide (∀ x ∈ suf, 0 ≤ x ∧ x ≤ L - 1)) := by
  intro suf
  induction suf with
  | nil =>
    intro pre hl
    subst hl
    exact Ev.step (fun k => impl_isWord.l0.eq_2 ..) (ev_neg (not_lt_end _) (ev_const (by simp)))
  | cons y suf ih =>
    intro pre hl
    subst hl
    refine Ev.step (fun k => impl_isWord.l0.eq_2 ..) (ev_pos (lt_mid _ _ _) (ev_pos (by omega) (ev_pos (lt_mid _ _ _) ?_)))
    simp only [rd_mid]
    by_cases h : 0 ≤ y ∧ y ≤ L - 1
    · refine ev_neg (by omega) (ev_neg (by omega) ?_)
      rw [next_mid _ _ _ hw]
      rw [show decide (∀ z ∈ y :: suf, 0 ≤ z ∧ z ≤ L - 1) = decide (∀ z ∈ suf, 0 ≤ z ∧ z ≤ L - 1) by rw [decide_eq_decide]; simp [h]]
      exact ih (pre ++ [y]) (assoc_mid _ _ _)
    · rw [show decide (∀ z ∈ y :: suf, 0 ≤ z ∧ z ≤ L - 1) = false from decide_eq_false (fun hh => h (hh y List.mem_cons_self))]
      by_cases h0 : y < 0
      · exact ev_pos h0 (ev_const rfl)
      · exact ev_neg h0 (ev_pos (by omega) (ev_const rfl))
theorem isWord (L : Int) (w : List Int) (hw : w.length ≤ maxLen) : Ev (fun k => impl_isWord.f k L w) (decide (WordOk L w)) := by
  unfold impl_isWord.f
  by_cases h : (w.length : Int) ≤ 40
  · refine ev_neg (by omega) ?_
    rw [show decide (WordOk L w) = decide (∀ x ∈ w, 0 ≤ x ∧ x ≤ L - 1) from decide_eq_decide.2 ⟨fun h2 => h2.2, fun h2 => ⟨h, h2⟩⟩]
    exact isWord_loop L w hw w [] rfl
  · exact ev_pos (by omega) (ev_const (by rw [decide_eq_false (fun h2 : WordOk L w => h h2.1)]))
/-- The state to which a word leads from a state. -/
def runA (N : List (List Int)) : Int → List Int → Int
  | s, [] => s
  | s, x :: w => runA N (rd (rd_L1 N s) x) w
theorem AuOk.step {L : Int} {N : List (List Int)} {F : List Int} (h : AuOk L N F) {s x : Int} (hs : 0 ≤ s ∧ s < N.length) (hx : 0 ≤ x ∧ x ≤ L - 1) :
    (rd_L1 N s).length = L ∧ 0 ≤ rd (rd_L1 N s) x ∧ rd (rd_L1 N s) x < N.length := by
  have hr := h.2.2.1 _ (rdl_mem hs.1 hs.2)
  have := hr.2 _ (rd_mem hx.1 (by rw [hr.1]; omega))
  exact ⟨hr.1, this.1, by omega⟩
theorem AuOk.run {L : Int} {N : List (List Int)} {F : List Int} (h : AuOk L N F) : ∀ (w : List Int) (s : Int), 0 ≤ s ∧ s < N.length → (∀ x ∈ w, 0 ≤ x ∧ x ≤ L - 1) → 0 ≤ runA N s w ∧ runA N s w < N.length := by
  intro w
  induction w with
  | nil => intro s hs _; exact hs
  | cons x w ih =>
    intro s hs hw
    have := h.step hs (hw x List.mem_cons_self)
    exact ih _ this.2 (fun y hy => hw y (List.mem_cons_of_mem _ hy))
theorem auRun_loop (L : Int) (N : List (List Int)) (F : List Int) (h : AuOk L N F) (w : List Int) (hw : w.length ≤ maxLen) : ∀ (suf pre : List Int) (s : Int), w = pre ++ suf → 0 ≤ s ∧ s < N.length → (∀ x ∈ suf, 0 ≤ x ∧ x ≤ L - 1) →
    Ev (fun k => spec_auRun.l0 k s w (w.length : Int) (pre.length : Int) L N F) (runA N s suf) := by
  intro suf
  induction suf with
  | nil =>
    intro pre s hl hs hx
    subst hl
    exact Ev.step (fun k => spec_auRun.l0.eq_2 ..) (ev_neg (not_lt_end _) (ev_const rfl))
  | cons y suf ih =>
    intro pre s hl hs hx
    subst hl
    have hy := hx y List.mem_cons_self
    have hst := h.step hs hy
    refine Ev.step (fun k => spec_auRun.l0.eq_2 ..) (ev_pos (lt_mid _ _ _) (ev_pos (by omega) (ev_pos (lt_mid _ _ _) (ev_pos hs.1 (ev_pos hs.2 ?_)))))
    simp only [rd_mid]
    refine ev_pos hy.1 (ev_pos (by rw [hst.1]; omega) ?_)
    rw [next_mid _ _ _ hw]
    exact ih (pre ++ [y]) _ (assoc_mid _ _ _) hst.2 (fun x hh => hx x (List.mem_cons_of_mem _ hh))
theorem auRun (L : Int) (N : List (List Int)) (F : List Int) (h : AuOk L N F) (w : List Int) (hw : w.length ≤ maxLen) (hx : ∀ x ∈ w, 0 ≤ x ∧ x ≤ L - 1) : Ev (fun k => spec_auRun.f k L N F w) (runA N 0 w) := by
  unfold spec_auRun.f
  exact auRun_loop L N F h w hw w [] 0 rfl (by have := h.2.1; omega) hx
theorem stateAfter_loop (L : Int) (N : List (List Int)) (F : List Int) (h : AuOk L N F) (w : List Int) (hw : w.length ≤ maxLen) : ∀ (suf pre : List Int) (s : Int), w = pre ++ suf → 0 ≤ s ∧ s < N.length → (∀ x ∈ suf, 0 ≤ x ∧ x ≤ L - 1) →
    Ev (fun k => impl_stateAfter.l0 k s w (w.length : Int) (pre.length : Int) L N F) (runA N s suf) := by
  intro suf
  induction suf with
  | nil =>
    intro pre s hl hs hx
    subst hl
    exact Ev.step (fun k => impl_stateAfter.l0.eq_2 ..) (ev_neg (not_lt_end _) (ev_const rfl))
  | cons y suf ih =>
    intro pre s hl hs hx
    subst hl
    have hy := hx y List.mem_cons_self
    have hst := h.step hs hy
    refine Ev.step (fun k => impl_stateAfter.l0.eq_2 ..) (ev_pos (lt_mid _ _ _) (ev_pos (by omega) (ev_pos (lt_mid _ _ _) (ev_pos hs.1 (ev_pos hs.2 ?_)))))
    simp only [rd_mid]
    refine ev_pos hy.1 (ev_pos (by rw [hst.1]; omega) ?_)
    rw [next_mid _ _ _ hw]
    exact ih (pre ++ [y]) _ (assoc_mid _ _ _) hst.2 (fun x hh => hx x (List.mem_cons_of_mem _ hh))
theorem stateAfter (L : Int) (N : List (List Int)) (F : List Int) (h : AuOk L N F) (w : List Int) (hw : w.length ≤ maxLen) (hx : ∀ x ∈ w, 0 ≤ x ∧ x ≤ L - 1) : Ev (fun k => impl_stateAfter.f k L N F w) (runA N 0 w) := by
  unfold impl_stateAfter.f
  exact stateAfter_loop L N F h w hw w [] 0 rfl (by have := h.2.1; omega) hx
end Go.Proofs.Ytkfedkckakegjaa.A
end

section
/- FnExactTurnFinal: the program's TurnFinal returns what the reference's returns, for all automata that are not greater than 2^20 numbers (as the law's own guard says). -/
namespace Go.Proofs.Ytkfedkckakegjaa.A
open Go.RowKit Go.Proofs.YtkfedkckakegjaaW.PrintWords Go.Proofs.YtkfedkckakegjaaW.PrintLast Go.Proofs.YtkfedkckakegjaaW.PrintMore Go.Proofs.Ytkfedkckakegjaa.P Go.Proofs.Ytkfedkckakegjaa.T
set_option linter.unusedVariables false
set_option linter.unusedSimpArgs false

theorem auOwn_loop (L : Int) (N : List (List Int)) (F : List Int) (hN : N.length ≤ 1048576) (hr : ∀ x ∈ N, x.length ≤ 1048576) : ∀ (suf pre : List (List Int)), N = pre ++ suf →
    Ev (fun k => spec_auOwn.l0 k N (N.length : Int) (pre.length : Int) L pre F) (L, N, F) := by
  intro suf
  induction suf with
  | nil =>
    intro pre hl
    obtain rfl : N = pre := by simpa using hl
    exact Ev.step (fun k => spec_auOwn.l0.eq_2 ..) (ev_neg (by omega) (ev_const rfl))
  | cons y suf ih =>
    intro pre hl
    subst hl
    have hlt := lt_mid pre y suf
    have hy : y.length ≤ 1048576 := hr y (by simp)
    have hpl : pre.length ≤ 1048576 := by simp at hN; omega
    refine Ev.step (fun k => spec_auOwn.l0.eq_2 ..) (ev_pos hlt (ev_pos (by omega) (ev_pos hlt ?_)))
    rw [rdr_mid, next_mid pre y suf (by simp only [maxLen]; omega)]
    refine ev_bindc (l1Own y (by omega)) (ev_pos (by omega) ?_)
    exact ih (pre ++ [y]) (assoc_mid _ _ _)
theorem auOwn (L : Int) (N : List (List Int)) (F : List Int) (hN : N.length ≤ 1048576) (hr : ∀ x ∈ N, x.length ≤ 1048576) (hF : F.length ≤ 1048576) : Ev (fun k => spec_auOwn.f k L N F) (L, N, F) := by
  unfold spec_auOwn.f
  exact ev_bindc (l1Own F (by omega)) (auOwn_loop L N F hN hr N [] rfl)
/-- The numbers from i on, d of them, that are not in F. -/
def notIn (F : List Int) : Nat → Int → List Int
  | 0, _ => []
  | d + 1, i => if i ∈ F then notIn F d (i + 1) else i :: notIn F d (i + 1)
theorem notIn_length (F : List Int) : ∀ (d : Nat) (i : Int), (notIn F d i).length ≤ d := by
  intro d
  induction d with
  | zero => intro i; simp [notIn]
  | succ d ih =>
    intro i
    have := ih (i + 1)
    unfold notIn
    split
    · omega
    · simp; omega
theorem specTurn_loop (L : Int) (N : List (List Int)) (F : List Int) (hF : F.length ≤ maxLen) (n : Int) (hn : n ≤ 1000) (N2 : List (List Int)) : ∀ (d : Nat) (i : Int) (acc : List Int), i + (d : Int) = n → 0 ≤ i → acc.length + d ≤ 1000 →
    Ev (fun k => spec_TurnFinal.l0 k n i L N F L N2 acc) (L, N2, acc ++ notIn F d i, true) := by
  intro d
  induction d with
  | zero =>
    intro i acc hi h0 ha
    exact Ev.step (fun k => spec_TurnFinal.l0.eq_2 ..) (ev_neg (by omega) (ev_const (by simp [notIn])))
  | succ d ih =>
    intro i acc hi h0 ha
    refine Ev.step (fun k => spec_TurnFinal.l0.eq_2 ..) (ev_pos (by omega) (ev_bind (l1Has F i hF) ?_))
    simp only [decide_eq_true_eq]
    rw [wrap_id (x := i + 1) (by omega) (by omega)]
    by_cases h : i ∈ F
    · rw [notIn, if_pos h]
      exact ev_pos h (ih (i + 1) acc (by omega) (by omega) (by omega))
    · rw [notIn, if_neg h]
      refine ev_neg h (ev_pos (by omega) ?_)
      have := ih (i + 1) (acc ++ [i]) (by omega) (by omega) (by simp; omega)
      simpa using this
theorem implTurn_loop (L : Int) (N : List (List Int)) (F : List Int) (hF : F.length ≤ maxLen) (hN : N.length ≤ 1000) (hr : ∀ x ∈ N, x.length ≤ 1000) : ∀ (suf pre : List (List Int)) (acc : List Int), N = pre ++ suf → acc.length + suf.length ≤ 1000 →
    Ev (fun k => impl_TurnFinal.l0 k N (N.length : Int) (pre.length : Int) L N F L pre acc) (L, N, acc ++ notIn F suf.length (pre.length : Int), true) := by
  intro suf
  induction suf with
  | nil =>
    intro pre acc hl ha
    obtain rfl : N = pre := by simpa using hl
    exact Ev.step (fun k => impl_TurnFinal.l0.eq_2 ..) (ev_neg (by omega) (ev_const (by simp [notIn])))
  | cons y suf ih =>
    intro pre acc hl ha
    subst hl
    have hlt := lt_mid pre y suf
    have hy : y.length ≤ 1000 := hr y (by simp)
    have hpl : pre.length ≤ 1000 := by simp at hN; omega
    have hn : ((pre ++ [y]).length : Int) = (pre.length : Int) + 1 := by simp
    simp only [List.length_cons] at ha
    refine Ev.step (fun k => impl_TurnFinal.l0.eq_2 ..) (ev_pos hlt (ev_pos (by omega) (ev_pos hlt (ev_bindc rfl ?_))))
    rw [rdr_mid, next_mid pre y suf (by simp only [maxLen]; omega)]
    refine ev_pos (by simp; omega) (ev_pos (by omega) (ev_bindc rfl (ev_bind (contains F _ hF) ?_)))
    simp only [decide_eq_true_eq, List.nil_append]
    by_cases h : (pre.length : Int) ∈ F
    · refine ev_pos h ?_
      have := ih (pre ++ [y]) acc (assoc_mid _ _ _) (by omega)
      rw [List.length_cons, notIn, if_pos h, ← hn]
      exact this
    · refine ev_neg h (ev_pos (by omega) ?_)
      have := ih (pre ++ [y]) (acc ++ [(pre.length : Int)]) (assoc_mid _ _ _) (by simp; omega)
      rw [List.length_cons, notIn, if_neg h, ← hn]
      simpa using this
def turned (L : Int) (N : List (List Int)) (F : List Int) : Int × List (List Int) × List Int × Bool := if AuOk L N F then (L, N, notIn F N.length 0, true) else (0, [], [], false)
theorem specTurnFinal (L : Int) (N : List (List Int)) (F : List Int) (hN : N.length ≤ 1048576) (hr : ∀ x ∈ N, x.length ≤ 1048576) (hF : F.length ≤ 1048576) : Ev (fun k => spec_TurnFinal.f k L N F) (turned L N F) := by
  unfold spec_TurnFinal.f turned
  refine ev_bind (auGood L N F (by simp only [maxLen]; omega) (fun x hx => by have := hr x hx; simp only [maxLen]; omega) (by simp only [maxLen]; omega)) ?_
  simp only [decide_eq_true_eq]
  by_cases h : AuOk L N F
  · rw [if_pos h]
    have h12 := h.2.1
    refine ev_pos h (ev_bind (auOwn L N F hN hr hF) ?_)
    have := specTurn_loop L N F (by simp only [maxLen]; omega) (N.length : Int) (by omega) N N.length 0 [] (by omega) (by omega) (by simp; omega)
    simpa using this
  · rw [if_neg h]
    exact ev_neg h (ev_const rfl)
theorem implTurnFinal (L : Int) (N : List (List Int)) (F : List Int) (hN : N.length ≤ 1048576) (hr : ∀ x ∈ N, x.length ≤ 1048576) (hF : F.length ≤ 1048576) : Ev (fun k => impl_TurnFinal.f k L N F) (turned L N F) := by
  unfold impl_TurnFinal.f turned
  refine ev_bind (isAu L N F (by simp only [maxLen]; omega) (fun x hx => by have := hr x hx; simp only [maxLen]; omega) (by simp only [maxLen]; omega)) ?_
  simp only [decide_eq_true_eq]
  by_cases h : AuOk L N F
  · rw [if_pos h]
    have h12 := h.2.1
    refine ev_pos h ?_
    have := implTurn_loop L N F (by simp only [maxLen]; omega) (by omega) (fun x hx => by have := (h.2.2.1 x hx).1; have := h.1; omega) N [] [] rfl (by simp; omega)
    simpa using this
  · rw [if_neg h]
    exact ev_neg h (ev_const rfl)
theorem turned_sizes (L : Int) (N : List (List Int)) (F : List Int) : (turned L N F).2.1.length ≤ 12 ∧ (∀ x ∈ (turned L N F).2.1, x.length ≤ 3) ∧ (turned L N F).2.2.1.length ≤ 12 := by
  unfold turned
  by_cases h : AuOk L N F
  · rw [if_pos h]
    have h12 := h.2.1
    refine ⟨by simp only; omega, fun x hx => by have := (h.2.2.1 x hx).1; have := h.1; omega, ?_⟩
    have := notIn_length F N.length 0
    simp only
    omega
  · rw [if_neg h]; simp
theorem lawFnExactTurnFinal (L : Int) (A1 : Option Addr) (c1 : Nat) (N : List (List Int)) (A2 : Option Addr) (c2 : Nat) (F : List Int) (w : World) (h1 : Kd.C (Kd.slice 3 (Kd.int .i64)) w A1 N.length N) (hc1 : N.length ≤ c1) (h2 : Kd.C (Kd.int .i64) w A2 F.length F) (hc2 : F.length ≤ c2)
    (hN : N.length ≤ maxLen) (hr : ∀ x ∈ N, x.length ≤ maxLen) (hF : F.length ≤ maxLen) :
    Calls Try.prog 6 #[.agg #[.int .i64 L, .slice A1 N.length c1, .slice A2 F.length c2]] w fun e w' => e = .returned (.bool true) ∧ Below w.heap.size w w' := by
  obtain ⟨s, ⟨K0, e0⟩, hsm⟩ := szAu L N F hN hr hF
  by_cases hs : s < 0
  · exact FnExactTurnFinal_small0 K0 L A1 c1 N A2 c2 F s w h1 hc1 h2 hc2 (e0 K0 (Nat.le_refl _)) hs
  obtain ⟨_, g1, g2, g3⟩ := hsm (by omega)
  obtain ⟨q1, q2, q3⟩ := turned_sizes L N F
  have hsum := sumLen_le 1048576 N g2
  have hb : sumLen N ≤ 1048576 * 1048576 := Nat.le_trans hsum (Nat.mul_le_mul_right _ g1)
  have hsum2 := sumLen_le 3 _ q2
  obtain ⟨K1, e1⟩ := toAu L N F g1 g2 g3
  obtain ⟨K2, e2⟩ := specTurnFinal L N F g1 g2 g3
  obtain ⟨K3, e3⟩ := implTurnFinal L N F g1 g2 g3
  obtain ⟨⟨t0, t1, t2, t3⟩, ht⟩ : ∃ t, t = turned L N F := ⟨_, rfl⟩
  rw [← ht] at e2 e3 q1 q2 q3 hsum2
  simp only at q1 q2 q3 hsum2
  obtain ⟨K4, e4⟩ := eqAu t0 t1 t2 (by simp only [maxLen]; omega) (fun x hx => by have := q2 x hx; simp only [maxLen]; omega) (by simp only [maxLen]; omega)
  obtain ⟨K5, e5⟩ := eqAu L N F hN hr hF
  obtain ⟨K6, e6⟩ := markAu L N F hr hF (by omega)
  obtain ⟨K7, e7⟩ := markAu t0 t1 t2 (fun x hx => by have := q2 x hx; simp only [maxLen]; omega) (by simp only [maxLen]; omega) (by omega)
  obtain ⟨K8, e8⟩ := heldAu t0 t1 t2 (by simp only [maxLen]; omega) (fun x hx => by have := q2 x hx; simp only [maxLen]; omega) (by simp only [maxLen]; omega) (by omega)
  have hk : ∀ K, K ≤ K0 + K1 + K2 + K3 + K4 + K5 + K6 + K7 + K8 → True := fun _ _ => trivial
  exact FnExactTurnFinal_walk (K0 + K1 + K2 + K3 + K4 + K5 + K6 + K7 + K8) L A1 c1 N A2 c2 F s t0 t1 t2 t3 t1 t2 _ _ _ _ _ _ w h1 hc1 h2 hc2 (e0 _ (by omega)) (by omega) (e1 _ (by omega)) (e2 _ (by omega)) (e3 _ (by omega)) (e4 _ (by omega)) (e5 _ (by omega)) (e6 _ (by omega)) (by omega) (e7 _ (by omega)) (by omega) (e8 _ (by omega))
end Go.Proofs.Ytkfedkckakegjaa.A
end

section
/- Opens an argument that a row reads as data into the cells and lists that a contract speaks of: whole numbers, slices, structs of two and three fields. -/
namespace Go.Proofs.Ytkfedkckakegjaa.Op
open Go.ChangeShapes Go.WideShapes Go.Deep Go.RowKit Go.Proofs.YtkfedkckakegjaaW.PrintWords
set_option linter.unusedVariables false

/-- What reads as data of type t is of kind d, and meets wf. -/
def Opens (P : Program) (t : TypeId) {α : Type} (d : Kd α) (wf : α → Prop) : Prop :=
  ∀ {H : Type} {enc : TypeId × Value → H} {w : World} {base : Nat} {spare : Nat → Bool} {held : Bool} {fuel : Nat} {cs : List Value} {x : DataW H × List MemPlace},
    DataW.trod enc P w base spare held fuel t cs = some x → ∃ a, d.K w a cs ∧ wf a

def WNum (k : IntKind) (n : Int) : Prop := (Lit.int k n).wf = true
abbrev WInt : Int → Prop := WNum .i64
def WList {α : Type} (wf : α → Prop) (l : List α) : Prop := l.length ≤ maxLen ∧ ∀ a ∈ l, wf a

theorem opens_int {P : Program} {t : TypeId} {k : IntKind} (h : P.underlying t = some (.int k)) : Opens P t (Kd.int k) (WNum k) := by
  intro H enc w base spare held fuel cs x ht
  obtain ⟨n, rfl, _, hw⟩ := DataW.trod_int h ht
  exact ⟨n, rfl, hw⟩

theorem opens_slice {P : Program} {t e : TypeId} {α : Type} {d : Kd α} {wf : α → Prop} (q : Nat) (h : P.underlying t = some (.slice e)) (hc : P.cellsOf e = d.sz) (o : Opens P e d wf) :
    Opens P t (Kd.slice q d) (WList wf) := by
  intro H enc w base spare held fuel cs x ht
  rcases open_slice h ht with ⟨rfl, _⟩ | ⟨a, len, cap, m, n, D, Pl, rfl, hb, hl, hm, hmm, hx, hi⟩
  · exact ⟨[], ⟨none, 0, rfl, Nat.le_refl _, rfl, by simp, fun hn => by simp at hn⟩, by simp [WList]⟩
  · have hlm : len ≤ m := by rw [hmm]; split <;> omega
    have each : ∀ i, i < len → ∃ y cs', w.cells? base (a.add (i * d.sz)) d.sz = some cs' ∧ d.K w y cs' ∧ wf y := by
      intro i hil
      obtain ⟨cs', h1, h2⟩ := hi i (by omega)
      obtain ⟨y, hk, hw⟩ := o h2
      rw [hc] at h1
      exact ⟨y, cs', h1, hk, hw⟩
    have build : ∀ k, k ≤ len → ∃ ys : List α, ys.length = k ∧ (∀ y ∈ ys, wf y) ∧ ∀ j y, ys[j]? = some y → ∃ c, c.length = d.sz ∧ d.K w y c ∧ ∀ i u, c[i]? = some u → w.cell? (a.add (j * d.sz + i)) = some u := by
      intro k
      induction k with
      | zero => exact fun _ => ⟨[], rfl, by simp, by simp⟩
      | succ k ih =>
        intro hk
        obtain ⟨ys, hlen, hwf, hys⟩ := ih (by omega)
        obtain ⟨y, cs', h1, h2, h3⟩ := each k (by omega)
        obtain ⟨_, hcl, hat⟩ := World.cells?_some h1
        refine ⟨ys ++ [y], by simp [hlen], ?_, ?_⟩
        · intro z hz
          rcases List.mem_append.1 hz with hz | hz
          · exact hwf z hz
          · rw [List.mem_singleton.1 hz]; exact h3
        · intro j z hj
          by_cases hjk : j < k
          · rw [List.getElem?_append_left (by omega)] at hj
            exact hys j z hj
          · have hjl : j < (ys ++ [y]).length := (List.getElem?_eq_some_iff.1 hj).1
            simp only [List.length_append, List.length_singleton, hlen] at hjl
            obtain rfl : j = k := by omega
            rw [List.getElem?_append_right (by omega), hlen, Nat.sub_self] at hj
            obtain rfl : y = z := by simpa using hj
            refine ⟨cs', hcl, h2, fun i u hu => ?_⟩
            have hil : i < d.sz := by
              have := (List.getElem?_eq_some_iff.1 hu).1
              omega
            have := hat i hil
            rw [Go.Deep.add_add] at this
            rw [this, hu]
    obtain ⟨ys, hlen, hwf, hys⟩ := build len (Nat.le_refl _)
    have hmx : len ≤ maxLen := by omega
    exact ⟨ys, ⟨some a, cap, by rw [hlen], by rw [hlen]; exact hl, rfl, by rw [hlen]; exact hmx, fun _ => ⟨a, rfl, hys⟩⟩, by rw [hlen]; exact hmx, hwf⟩

theorem opens_iso {P : Program} {t : TypeId} {α β : Type} {d : Kd α} {wf : α → Prop} (f : β → α) (g : α → β) (hg : ∀ a, f (g a) = a) (o : Opens P t d wf) : Opens P t (Kd.iso d f) (fun b => wf (f b)) := by
  intro H enc w base spare held fuel cs x ht
  obtain ⟨a, h1, h2⟩ := o ht
  exact ⟨g a, by show d.K w (f (g a)) cs; rw [hg]; exact h1, by show wf (f (g a)); rw [hg]; exact h2⟩

theorem opens_two {P : Program} {t : TypeId} {f0 f1 : Field} {α β : Type} {a : Kd α} {b : Kd β} {wa : α → Prop} {wb : β → Prop}
    (h : P.underlying t = some (.struct #[f0, f1])) (hc : P.cellsOf t = a.sz + b.sz) (o0 : f0.offset = 0) (o1 : f1.offset = a.sz) (c0 : P.cellsOf f0.type = a.sz) (c1 : P.cellsOf f1.type = b.sz)
    (oa : Opens P f0.type a wa) (ob : Opens P f1.type b wb) : Opens P t (Kd.pair a b) (fun x => wa x.1 ∧ wb x.2) := by
  intro H enc w base spare held fuel cs x ht
  obtain ⟨xs, n, _, _, hlen, hxl, hf⟩ := DataW.trod_struct h ht
  have hx2 : xs.length = 2 := hxl
  have h0 := hf 0 f0 rfl
  have h1 := hf 1 f1 rfl
  rw [List.getElem?_eq_getElem (by omega)] at h0 h1
  obtain ⟨y0, k0, w0⟩ := oa h0
  obtain ⟨y1, k1, w1⟩ := ob h1
  refine ⟨(y0, y1), ⟨_, _, ?_, k0, k1⟩, w0, w1⟩
  rw [hc] at hlen
  rw [o0, o1, c0, c1, List.drop_zero]
  rw [List.take_of_length_le (l := cs.drop a.sz) (by simp; omega), List.take_append_drop]

theorem opens_three {P : Program} {t : TypeId} {f0 f1 f2 : Field} {α β γ : Type} {a : Kd α} {b : Kd β} {c : Kd γ} {wa : α → Prop} {wb : β → Prop} {wc : γ → Prop}
    (h : P.underlying t = some (.struct #[f0, f1, f2])) (hc : P.cellsOf t = a.sz + (b.sz + c.sz)) (o0 : f0.offset = 0) (o1 : f1.offset = a.sz) (o2 : f2.offset = a.sz + b.sz) (c0 : P.cellsOf f0.type = a.sz) (c1 : P.cellsOf f1.type = b.sz) (c2 : P.cellsOf f2.type = c.sz)
    (oa : Opens P f0.type a wa) (ob : Opens P f1.type b wb) (oc : Opens P f2.type c wc) : Opens P t (Kd.pair a (Kd.pair b c)) (fun x => wa x.1 ∧ wb x.2.1 ∧ wc x.2.2) := by
  intro H enc w base spare held fuel cs x ht
  obtain ⟨xs, n, _, _, hlen, hxl, hf⟩ := DataW.trod_struct h ht
  have hx2 : xs.length = 3 := hxl
  have h0 := hf 0 f0 rfl
  have h1 := hf 1 f1 rfl
  have h2 := hf 2 f2 rfl
  rw [List.getElem?_eq_getElem (by omega)] at h0 h1 h2
  obtain ⟨y0, k0, w0⟩ := oa h0
  obtain ⟨y1, k1, w1⟩ := ob h1
  obtain ⟨y2, k2, w2⟩ := oc h2
  rw [hc] at hlen
  refine ⟨(y0, y1, y2), ⟨_, cs.drop a.sz, ?_, k0, ⟨_, _, ?_, k1, k2⟩⟩, w0, w1, w2⟩
  · rw [o0, c0, List.drop_zero, List.take_append_drop]
  · rw [o1, o2, c1, c2]
    rw [List.take_of_length_le (l := cs.drop (a.sz + b.sz)) (by simp; omega), ← List.drop_drop, List.take_append_drop]

/-- A slice among the arguments. -/
theorem open_arg_slice {P : Program} {t : TypeId} {α : Type} {d : Kd α} {wf : α → Prop} {q : Nat} (o : Opens P t (Kd.slice q d) (WList wf)) {H : Type} {enc : TypeId × Value → H} {w : World} {base : Nat} {spare : Nat → Bool} {held : Bool}
    {A : Option Addr} {len cap : Nat} {D : DataW H} {ps : List MemPlace} (h : DataW.Trod enc P w base spare held t (.slice A len cap) D ps) :
    ∃ l : List α, len = l.length ∧ l.length ≤ cap ∧ d.C w A l.length l ∧ WList wf l := by
  obtain ⟨fuel, hf⟩ := h
  obtain ⟨l, ⟨A', c, he, hl, hC⟩, hw⟩ := o hf
  simp only [Value.cells, List.cons.injEq, Value.slice.injEq, and_true] at he
  obtain ⟨rfl, rfl, rfl⟩ := he
  exact ⟨l, rfl, hl, hC, hw⟩
end Go.Proofs.Ytkfedkckakegjaa.Op
end

section
/- FnExactTurnFinal: the program and the reference agree for all arguments: the row over the pure statement. -/
namespace Go.Proofs.Ytkfedkckakegjaa.fnExactTurnFinal
open Go.ChangeShapes Go.WideShapes Go.ChangeAt Go.RowKit
open Go.ChangeMaps (open_string shut_string)
open Go.Proofs.Ytkfedkckakegjaa.Op
set_option linter.unusedVariables false
theorem own : ownKnob Try.prog.godebug = none := by kernel_rfl
theorem laidOut : laidOutB Try.prog = true := by kernel_rfl
theorem ty3 : Opens Try.prog 3 (Go.Proofs.YtkfedkckakegjaaW.PrintWords.Kd.int .i64) (WNum .i64) := opens_int Try.underlying3
theorem ty23 : Opens Try.prog 23 (Go.Proofs.YtkfedkckakegjaaW.PrintWords.Kd.slice 3 (Go.Proofs.YtkfedkckakegjaaW.PrintWords.Kd.int .i64)) (WList (WNum .i64)) := opens_slice 3 Try.underlying23 (by kernel_rfl) ty3
theorem ty22 : Opens Try.prog 22 (Go.Proofs.YtkfedkckakegjaaW.PrintWords.Kd.slice 23 (Go.Proofs.YtkfedkckakegjaaW.PrintWords.Kd.slice 3 (Go.Proofs.YtkfedkckakegjaaW.PrintWords.Kd.int .i64))) (WList (WList (WNum .i64))) := opens_slice 23 Try.underlying22 (by kernel_rfl) ty23
theorem tw25 : Opens Try.prog 25 (Go.Proofs.YtkfedkckakegjaaW.PrintWords.Kd.pair (Go.Proofs.YtkfedkckakegjaaW.PrintWords.Kd.int .i64) (Go.Proofs.YtkfedkckakegjaaW.PrintWords.Kd.pair (Go.Proofs.YtkfedkckakegjaaW.PrintWords.Kd.slice 23 (Go.Proofs.YtkfedkckakegjaaW.PrintWords.Kd.slice 3 (Go.Proofs.YtkfedkckakegjaaW.PrintWords.Kd.int .i64))) (Go.Proofs.YtkfedkckakegjaaW.PrintWords.Kd.slice 3 (Go.Proofs.YtkfedkckakegjaaW.PrintWords.Kd.int .i64)))) (fun x : Int × (List (List Int)) × (List Int) => (WNum .i64) x.1 ∧ (WList (WList (WNum .i64))) x.2.1 ∧ (WList (WNum .i64)) x.2.2) := opens_three Try.underlying25 (by kernel_rfl) (by kernel_rfl) (by kernel_rfl) (by kernel_rfl) (by kernel_rfl) (by kernel_rfl) (by kernel_rfl) ty3 ty22 ty23
set_option maxRecDepth 100000 in
theorem lifted (os : Os) (started : os.Started) (H : Type) (enc : TypeId × Value → H) :
    ReturnsInHanded {} Try.checked os 6 .any (Rows.fnExactTurnFinalSpec.pre6 enc Try.prog Try.f6 Rows.fnExactTurnFinalRow.domain false) (Rows.fnExactTurnFinalSpec.post enc Try.prog Try.f6 false true false false) := by
  refine returnsInHanded_of_change_sized (C := Try.checked) own started (by kernel_rfl) Try.func6
    (ChangeSpec.witness6 (enc := enc) (C := Try.checked) false ⟨#[], #[.agg #[.int .i64 0, .slice none 0 0, .slice none 0 0]], []⟩ 8 (by kernel_rfl) (by kernel_rfl) (by kernel_rfl) (by kernel_rfl)) ?_
  intro W base args ds gs before hval0 hW hcnd hsz0 _
  have hsz : (DataW.weightsEach Try.prog (Try.f6.params.toList ++ Rows.fnExactTurnFinalSpec.plain.varTypes Try.prog) (ds ++ gs)).all (· ≤ reachBytes) = true := hsz0
  have hval : ∀ (j : Nat) t v, Try.f6.params[j]? = some t → args[j]? = some v → Value.okWide Try.prog W .any base t v := hval0
  have hW' := hW
  obtain ⟨p, q, hA0, hV, rfl, hfz, hnd⟩ := hW
  have hA : DataW.TrodAll enc Try.prog W 0 (fun _ => true) true Try.f6.params.toList args.toList ds p := hA0
  rw [Try.params6] at hA hval hsz
  obtain ⟨v0, vs0, d0, ds0, p0, q0, hargs, rfl, rfl, h0, r0⟩ := trodAll_cons hA
  obtain ⟨rfl, rfl, rfl⟩ := trodAll_nil r0
  obtain rfl : args = #[v0] := by cases args; simp_all
  obtain ⟨rfl, rfl⟩ := trodVars_none hV
  have k0 := h0
  have lt0 : ∀ x ∈ p0, x.block < W.heap.size := by obtain ⟨m, hm⟩ := k0; exact DataW.trod_lt m _ _ _ hm
  obtain ⟨cs0, rfl, _⟩ := okWide_struct Try.underlying25 (hval 0 25 v0 rfl rfl)
  obtain ⟨csl0⟩ := cs0
  obtain ⟨fu0, hf0⟩ := h0
  obtain ⟨⟨a0_0, l0_1, l0_2⟩, ⟨x0_0, xr0, ex0, e0_0, ⟨x0_1, x0_2, er0, ⟨A0_1, c0_1, e0_1, hc0_1, hC0_1⟩, ⟨A0_2, c0_2, e0_2, hc0_2, hC0_2⟩⟩⟩, ⟨w0_0, w0_1, w0_2⟩⟩ := tw25 hf0
  replace e0_0 : x0_0 = [Value.int .i64 a0_0] := e0_0
  replace e0_1 : x0_1 = [Value.slice A0_1 l0_1.length c0_1] := e0_1
  replace hc0_1 : l0_1.length ≤ c0_1 := hc0_1
  replace hC0_1 : Go.Proofs.YtkfedkckakegjaaW.PrintWords.Kd.C (Go.Proofs.YtkfedkckakegjaaW.PrintWords.Kd.slice 3 (Go.Proofs.YtkfedkckakegjaaW.PrintWords.Kd.int .i64)) W A0_1 l0_1.length l0_1 := hC0_1
  replace e0_2 : x0_2 = [Value.slice A0_2 l0_2.length c0_2] := e0_2
  replace hc0_2 : l0_2.length ≤ c0_2 := hc0_2
  replace hC0_2 : Go.Proofs.YtkfedkckakegjaaW.PrintWords.Kd.C (Go.Proofs.YtkfedkckakegjaaW.PrintWords.Kd.int .i64) W A0_2 l0_2.length l0_2 := hC0_2
  replace w0_0 : (WNum .i64) a0_0 := w0_0
  replace w0_1 : (WList (WList (WNum .i64))) l0_1 := w0_1
  replace w0_2 : (WList (WNum .i64)) l0_2 := w0_2
  subst e0_1 e0_2 er0 e0_0 ex0
  clear hA0 hval0 hsz0 hsz
  refine (A.lawFnExactTurnFinal a0_0 A0_1 c0_1 l0_1 A0_2 c0_2 l0_2 W hC0_1 hc0_1 hC0_2 hc0_2 w0_1.1 (fun x hx => (w0_1.2 x hx).1) w0_2.1).mono fun e W' ⟨he, bel⟩ => ?_
  subst he
  exact ⟨_, rfl, _, _, _, [], _, [], hW', trodAll_mk1 (shut_bool Try.underlying4 _), (trodAll_cons_mk (Below.trod laidOut (by kernel_rfl) (of_decide_eq_true (by kernel_rfl)) k0 bel lt0) trodAll_mk0), rfl, bel.frame _, fun h => by cases h⟩
theorem over : Rows.fnExactTurnFinalRow.holds Try.pinned (OpenSpec.ofChange Rows.fnExactTurnFinalSpec) :=
  OpenClaim.holds_of_wide 6 Try.f6 rfl rfl rfl rfl rfl rfl rfl ⟨rfl, rfl, rfl, rfl, rfl⟩ rfl rfl rfl rfl rfl (by kernel_rfl) Try.func6 (by kernel_rfl)
    (of_decide_eq_true (by kernel_rfl)) (by unfold Func.isWrapper; first | (rw [if_pos (by decide +kernel)]; kernel_rfl) | (rw [if_neg (by decide +kernel)]; exact ⟨rfl, rfl⟩))
    (fun os started H enc _ => lifted os started H enc)
end Go.Proofs.Ytkfedkckakegjaa.fnExactTurnFinal
namespace Go.Proofs.Ytkfedkckakegjaa
/-- The row. -/
theorem fnExactTurnFinal_holds : Rows.FnExactTurnFinalSaid := fnExactTurnFinal.over
end Go.Proofs.Ytkfedkckakegjaa
end
