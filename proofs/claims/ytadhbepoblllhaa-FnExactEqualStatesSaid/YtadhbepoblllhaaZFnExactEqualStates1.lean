/- FnExactEqualStates: texts of this claim in one: WalkFnExactEqualStates, AMark, LawEqualStates, Op, RowFnExactEqualStates. -/
import Derived.Test.YtadhbepoblllhaaZFnExactEqualStates0
import Derived.Test.YtadhbepoblllhaaYFnExactEqualStatesPx36
import Derived.Test.YtadhbepoblllhaaYFnExactEqualStatesPx37
import Derived.Test.YtadhbepoblllhaaYFnExactEqualStatesPx43
import Derived.Test.YtadhbepoblllhaaYFnExactEqualStatesPx44
import Derived.Test.YtadhbepoblllhaaYFnExactEqualStatesPx45
import Derived.Test.YtadhbepoblllhaaYFnExactEqualStatesPx38
import Derived.Test.YtadhbepoblllhaaYFnExactEqualStatesABase
import Derived.Test.YtadhbepoblllhaaYFnExactEqualStatesAEq
import Derived.Deep.Slices
import Derived.ChangeSame
import Derived.ChangeArms
import Derived.Test.YtadhbepoblllhaaWWords
import Derived.Test.YtadhbepoblllhaaRows
import Derived.WalkKit
import Derived.ProofKit
import Derived.OpenShut
import Derived.ShutString
import Derived.ChangeOld
import Derived.Below
import Derived.SizedLaws
section
/- The walk of FnExactEqualStates along the one way on which all its tests succeed, and the short ones where an argument is too great. -/
namespace Go.Proofs.Ytadhbepoblllhaa.P
open Go.RowKit Go.Proofs.YtadhbepoblllhaaW.PrintWords Go.Proofs.YtadhbepoblllhaaW.PrintLast Go.Proofs.YtadhbepoblllhaaW.PrintMore Go.Proofs.Ytadhbepoblllhaa
set_option linter.unusedVariables false
set_option linter.unusedSimpArgs false
set_option maxHeartbeats 4000000 in
set_option maxRecDepth 100000 in
theorem FnExactEqualStates_small0 (k : Nat) (a0_0 : Int) (A0_1 : Option Addr) (c0_1 : Nat) (l0_1 : List (List (Int))) (A0_2 : Option Addr) (c0_2 : Nat) (l0_2 : List (Int)) (z_aA : Int) (w : World)
    (hr0_1 : Kd.C (Kd.slice 3 (Kd.int .i64)) w A0_1 l0_1.length l0_1) (hc0_1 : l0_1.length ≤ c0_1)
    (hr0_2 : Kd.C (Kd.int .i64) w A0_2 l0_2.length l0_2) (hc0_2 : l0_2.length ≤ c0_2)
    (e_sz_aA : laws_szAutomaton.f k a0_0 l0_1 l0_2 1048576 = some z_aA)
    (hz_aA : z_aA < 0) :
    Calls Try.prog 7 #[.agg #[.int .i64 a0_0, .slice A0_1 l0_1.length c0_1, .slice A0_2 l0_2.length c0_2]] w fun e w' => e = .returned (.bool true) ∧ Below w.heap.size w w' := by
  have hu29 := Try.underlying29
  have hu25 := Try.underlying25
  have hzb_aA : decide (z_aA < 0) = true := decide_eq_true (by omega)
  have HR0_1 := Aside0.mk hr0_1
  clear hr0_1
  have HC0_1 := Aside0.mk hc0_1
  clear hc0_1
  have HR0_2 := Aside0.mk hr0_2
  clear hr0_2
  have HC0_2 := Aside0.mk hc0_2
  clear hc0_2
  have He_sz_aA := Aside0.mk e_sz_aA
  clear e_sz_aA
  have HB := Aside0.mk (Below.refl w.heap.size w)
  go_enter Try.func7, Try.ntmps7
  go_wp2_with fail
  refine (laws_szAutomaton.calls k _ _ _ _ _ _ _ _ _ _ (Kd.C_below HR0_1.out (below_step HB.out (by repeat (first | with_reducible exact Below.refl _ _ | with_reducible apply below_alloc | with_reducible refine below_set ?_ (Nat.le_refl _) | with_reducible apply pw_below_drewN | with_reducible apply below_drew1)))) HC0_1.out (Kd.C_below HR0_2.out (below_step HB.out (by repeat (first | with_reducible exact Below.refl _ _ | with_reducible apply below_alloc | with_reducible refine below_set ?_ (Nat.le_refl _) | with_reducible apply pw_below_drewN | with_reducible apply below_drew1)))) HC0_2.out He_sz_aA.out).mono ?_
  rintro e w1 ⟨rfl, hb⟩
  have BK_aA := Aside0.mk (blk_below (g := w.heap.size) (o := .cells #[.int .i64 a0_0, .slice A0_1 l0_1.length c0_1, .slice A0_2 l0_2.length c0_2] 25 (0, 0)) (by (repeat (first | with_reducible refine blk_drewN ?_ _ | with_reducible refine blk_drew ?_)); exact (blk_new _ _)) hb)
  have HG_BK_aA : Aside0 (w.heap.size < w1.heap.size) := ⟨blk_lt BK_aA.out⟩
  have HW := Aside0.mk (below_step (w := w) (by repeat (first | with_reducible exact Below.refl _ _ | with_reducible apply below_alloc | with_reducible refine below_set ?_ (Nat.le_refl _) | with_reducible apply pw_below_drewN | with_reducible apply below_drew1)) hb)
  have HZ1 : Aside0 (w.heap.size ≤ w1.heap.size) := ⟨HW.out.size⟩
  replace HB := Aside0.mk (below_step HB.out HW.out)
  clear hb HW
  have czBK_aA_0 : w1.cell? ⟨w.heap.size, 0, none⟩ = some (.int .i64 a0_0) := (blk_cell BK_aA.out 0).trans rfl
  have czBK_aA_1 : w1.cell? ⟨w.heap.size, 1, none⟩ = some (.slice A0_1 l0_1.length c0_1) := (blk_cell BK_aA.out 1).trans rfl
  have czBK_aA_2 : w1.cell? ⟨w.heap.size, 2, none⟩ = some (.slice A0_2 l0_2.length c0_2) := (blk_cell BK_aA.out 2).trans rfl
  go_wp2_with fail
  go_ret
  exact ⟨rfl, below_step HB.out (by repeat (first | with_reducible exact Below.refl _ _ | with_reducible apply below_alloc | with_reducible refine below_set ?_ (Nat.le_refl _) | with_reducible apply pw_below_drewN | with_reducible apply below_drew1))⟩
set_option maxHeartbeats 4000000 in
set_option maxRecDepth 100000 in
theorem FnExactEqualStates_walk (k : Nat) (a0_0 : Int) (A0_1 : Option Addr) (c0_1 : Nat) (l0_1 : List (List (Int))) (A0_2 : Option Addr) (c0_2 : Nat) (l0_2 : List (Int)) (z_aA : Int) (r0 : List (List (Int))) (r1 : Bool) (s0 : List (List (Int))) (kx0 : Int) (nx0_1 : List (List (Int))) (nx0_2 : List (Int)) (mg0 : Int) (ng0_0 : List (List (Int))) (w : World)
    (hr0_1 : Kd.C (Kd.slice 3 (Kd.int .i64)) w A0_1 l0_1.length l0_1) (hc0_1 : l0_1.length ≤ c0_1)
    (hr0_2 : Kd.C (Kd.int .i64) w A0_2 l0_2.length l0_2) (hc0_2 : l0_2.length ≤ c0_2)
    (e_sz_aA : laws_szAutomaton.f k a0_0 l0_1 l0_2 1048576 = some z_aA)
    (hz_aA : 0 ≤ z_aA)
    (e_to_aA : laws_toAutomaton.f k a0_0 l0_1 l0_2 = some (a0_0, l0_1, l0_2))
    (e_spec : spec_EqualStates.f k a0_0 l0_1 l0_2 = some (r0, r1))
    (e_impl : impl_EqualStates.f k a0_0 l0_1 l0_2 = some (s0, r1))
    (e_eq_w0 : laws_eqIntSS.f k s0 r0 = some true)
    (e_eq_x0 : laws_eqAutomaton.f k a0_0 l0_1 l0_2 a0_0 l0_1 l0_2 = some true)
    (e_mark_x0 : laws_markAutomaton.f k a0_0 l0_1 l0_2 1 = some (kx0, nx0_1, nx0_2))
    (hkx0 : 0 ≤ kx0)
    (e_mark_g0 : laws_markIntSS.f k s0 1 = some (mg0, ng0_0))
    (hmg0 : 0 ≤ mg0)
    (e_held_g0 : laws_heldIntSS.f k ng0_0 1 = some mg0) :
    Calls Try.prog 7 #[.agg #[.int .i64 a0_0, .slice A0_1 l0_1.length c0_1, .slice A0_2 l0_2.length c0_2]] w fun e w' => e = .returned (.bool true) ∧ Below w.heap.size w w' := by
  have hu29 := Try.underlying29
  have hu25 := Try.underlying25
  have hzb_aA : decide (z_aA < 0) = false := decide_eq_false (by omega)
  have HR0_1 := Aside0.mk hr0_1
  clear hr0_1
  have HC0_1 := Aside0.mk hc0_1
  clear hc0_1
  have HR0_2 := Aside0.mk hr0_2
  clear hr0_2
  have HC0_2 := Aside0.mk hc0_2
  clear hc0_2
  have He_sz_aA := Aside0.mk e_sz_aA
  clear e_sz_aA
  have He_to_aA := Aside0.mk e_to_aA
  clear e_to_aA
  have He_spec := Aside0.mk e_spec
  clear e_spec
  have He_impl := Aside0.mk e_impl
  clear e_impl
  have He_eq_w0 := Aside0.mk e_eq_w0
  clear e_eq_w0
  have He_eq_x0 := Aside0.mk e_eq_x0
  clear e_eq_x0
  have He_mark_x0 := Aside0.mk e_mark_x0
  clear e_mark_x0
  have hkb_x0 : decide (kx0 < 0) = false := decide_eq_false (by omega)
  have He_mark_g0 := Aside0.mk e_mark_g0
  clear e_mark_g0
  have hmb_g0 : decide (mg0 < 0) = false := decide_eq_false (by omega)
  have He_held_g0 := Aside0.mk e_held_g0
  clear e_held_g0
  have HB := Aside0.mk (Below.refl w.heap.size w)
  go_enter Try.func7, Try.ntmps7
  go_wp2_with fail
  refine (laws_szAutomaton.calls k _ _ _ _ _ _ _ _ _ _ (Kd.C_below HR0_1.out (below_step HB.out (by repeat (first | with_reducible exact Below.refl _ _ | with_reducible apply below_alloc | with_reducible refine below_set ?_ (Nat.le_refl _) | with_reducible apply pw_below_drewN | with_reducible apply below_drew1)))) HC0_1.out (Kd.C_below HR0_2.out (below_step HB.out (by repeat (first | with_reducible exact Below.refl _ _ | with_reducible apply below_alloc | with_reducible refine below_set ?_ (Nat.le_refl _) | with_reducible apply pw_below_drewN | with_reducible apply below_drew1)))) HC0_2.out He_sz_aA.out).mono ?_
  rintro e w1 ⟨rfl, hb⟩
  have BK_aA := Aside0.mk (blk_below (g := w.heap.size) (o := .cells #[.int .i64 a0_0, .slice A0_1 l0_1.length c0_1, .slice A0_2 l0_2.length c0_2] 25 (0, 0)) (by (repeat (first | with_reducible refine blk_drewN ?_ _ | with_reducible refine blk_drew ?_)); exact (blk_new _ _)) hb)
  have HG_BK_aA : Aside0 (w.heap.size < w1.heap.size) := ⟨blk_lt BK_aA.out⟩
  have HW := Aside0.mk (below_step (w := w) (by repeat (first | with_reducible exact Below.refl _ _ | with_reducible apply below_alloc | with_reducible refine below_set ?_ (Nat.le_refl _) | with_reducible apply pw_below_drewN | with_reducible apply below_drew1)) hb)
  have HZ1 : Aside0 (w.heap.size ≤ w1.heap.size) := ⟨HW.out.size⟩
  replace HB := Aside0.mk (below_step HB.out HW.out)
  clear hb HW
  have czBK_aA_0 : w1.cell? ⟨w.heap.size, 0, none⟩ = some (.int .i64 a0_0) := (blk_cell BK_aA.out 0).trans rfl
  have czBK_aA_1 : w1.cell? ⟨w.heap.size, 1, none⟩ = some (.slice A0_1 l0_1.length c0_1) := (blk_cell BK_aA.out 1).trans rfl
  have czBK_aA_2 : w1.cell? ⟨w.heap.size, 2, none⟩ = some (.slice A0_2 l0_2.length c0_2) := (blk_cell BK_aA.out 2).trans rfl
  go_wp2_with fail
  refine (laws_toAutomaton.calls k _ _ _ _ _ _ _ _ _ _ _ (Kd.C_below HR0_1.out (below_step HB.out (by repeat (first | with_reducible exact Below.refl _ _ | with_reducible apply below_alloc | with_reducible refine below_set ?_ (Nat.le_refl _) | with_reducible apply pw_below_drewN | with_reducible apply below_drew1)))) HC0_1.out (Kd.C_below HR0_2.out (below_step HB.out (by repeat (first | with_reducible exact Below.refl _ _ | with_reducible apply below_alloc | with_reducible refine below_set ?_ (Nat.le_refl _) | with_reducible apply pw_below_drewN | with_reducible apply below_drew1)))) HC0_2.out He_to_aA.out).mono ?_
  rintro e w2 ⟨vt14_0, vt14_1, rfl, hf1, hf2, hb⟩
  clear czBK_aA_0 czBK_aA_1 czBK_aA_2
  have HN := Aside0.mk HB.out.size
  have HW := Aside0.mk (below_step (w := w1) (by repeat (first | with_reducible exact Below.refl _ _ | with_reducible apply below_alloc | with_reducible refine below_set ?_ (Nat.le_refl _) | with_reducible apply pw_below_drewN | with_reducible apply below_drew1)) hb)
  have HZ2 : Aside0 (w1.heap.size ≤ w2.heap.size) := ⟨HW.out.size⟩
  replace HB := Aside0.mk (below_step HB.out HW.out)
  replace BK_aA := Aside0.mk (blk_below BK_aA.out HW.out)
  obtain ⟨lo1_, F1, HLO1⟩ := Own.S_iv (wN := w1) hf1 HN.out (by repeat (first | with_reducible exact Below.refl _ _ | with_reducible apply below_alloc | with_reducible refine below_set ?_ (Nat.le_refl _) | with_reducible apply pw_below_drewN | with_reducible apply below_drew1)) hb
  obtain ⟨lo2_, F2, HLO2⟩ := Own.R_iv (wN := w1) rfl hf2 HN.out (by repeat (first | with_reducible exact Below.refl _ _ | with_reducible apply below_alloc | with_reducible refine below_set ?_ (Nat.le_refl _) | with_reducible apply pw_below_drewN | with_reducible apply below_drew1)) hb
  obtain ⟨A1_, c1_, e1_⟩ := Kd.S_slice F1.out
  subst e1_
  obtain ⟨A2_, c2_, e2_⟩ := Kd.R_slice F2.out
  subst e2_
  clear hb HW HN hf1 hf2
  have czBK_aA_0 : w2.cell? ⟨w.heap.size, 0, none⟩ = some (.int .i64 a0_0) := (blk_cell BK_aA.out 0).trans rfl
  have czBK_aA_1 : w2.cell? ⟨w.heap.size, 1, none⟩ = some (.slice A0_1 l0_1.length c0_1) := (blk_cell BK_aA.out 1).trans rfl
  have czBK_aA_2 : w2.cell? ⟨w.heap.size, 2, none⟩ = some (.slice A0_2 l0_2.length c0_2) := (blk_cell BK_aA.out 2).trans rfl
  go_wp2_with fail
  refine (spec_EqualStates.calls k _ _ _ _ _ _ _ _ _ _ (Kd.C_below (Kd.S_reads' F1.out).2.2 (by repeat (first | with_reducible exact Below.refl _ _ | with_reducible apply below_alloc | with_reducible refine below_set ?_ (Nat.le_refl _) | with_reducible apply pw_below_drewN | with_reducible apply below_drew1))) (Kd.S_reads' F1.out).2.1 (Kd.C_below (Kd.R_reads' F2.out).2.2 (by repeat (first | with_reducible exact Below.refl _ _ | with_reducible apply below_alloc | with_reducible refine below_set ?_ (Nat.le_refl _) | with_reducible apply pw_below_drewN | with_reducible apply below_drew1))) (Kd.R_reads' F2.out).2.1 He_spec.out).mono ?_
  rintro e w3 ⟨vw0_0, rfl, hf3, hb⟩
  clear czBK_aA_0 czBK_aA_1 czBK_aA_2
  have HN := Aside0.mk HB.out.size
  have HW := Aside0.mk (below_step (w := w2) (by repeat (first | with_reducible exact Below.refl _ _ | with_reducible apply below_alloc | with_reducible refine below_set ?_ (Nat.le_refl _) | with_reducible apply pw_below_drewN | with_reducible apply below_drew1)) hb)
  have HZ3 : Aside0 (w2.heap.size ≤ w3.heap.size) := ⟨HW.out.size⟩
  replace HB := Aside0.mk (below_step HB.out HW.out)
  replace F1 := Aside0.mk (Kd.S_below F1.out HW.out)
  replace F2 := Aside0.mk (Kd.R_below F2.out HW.out)
  replace BK_aA := Aside0.mk (blk_below BK_aA.out HW.out)
  obtain ⟨lo3_, F3, HLO3⟩ := Own.S_iv (wN := w2) hf3 HN.out (by repeat (first | with_reducible exact Below.refl _ _ | with_reducible apply below_alloc | with_reducible refine below_set ?_ (Nat.le_refl _) | with_reducible apply pw_below_drewN | with_reducible apply below_drew1)) hb
  obtain ⟨A3_, c3_, e3_⟩ := Kd.S_slice F3.out
  subst e3_
  clear hb HW HN hf3
  have czBK_aA_0 : w3.cell? ⟨w.heap.size, 0, none⟩ = some (.int .i64 a0_0) := (blk_cell BK_aA.out 0).trans rfl
  have czBK_aA_1 : w3.cell? ⟨w.heap.size, 1, none⟩ = some (.slice A0_1 l0_1.length c0_1) := (blk_cell BK_aA.out 1).trans rfl
  have czBK_aA_2 : w3.cell? ⟨w.heap.size, 2, none⟩ = some (.slice A0_2 l0_2.length c0_2) := (blk_cell BK_aA.out 2).trans rfl
  go_wp2_with fail
  refine (laws_toAutomaton.calls k _ _ _ _ _ _ _ _ _ _ _ (Kd.C_below HR0_1.out (below_step HB.out (by repeat (first | with_reducible exact Below.refl _ _ | with_reducible apply below_alloc | with_reducible refine below_set ?_ (Nat.le_refl _) | with_reducible apply pw_below_drewN | with_reducible apply below_drew1)))) HC0_1.out (Kd.C_below HR0_2.out (below_step HB.out (by repeat (first | with_reducible exact Below.refl _ _ | with_reducible apply below_alloc | with_reducible refine below_set ?_ (Nat.le_refl _) | with_reducible apply pw_below_drewN | with_reducible apply below_drew1)))) HC0_2.out He_to_aA.out).mono ?_
  rintro e w4 ⟨vx0_0, vx0_1, rfl, hf4, hf5, hb⟩
  clear czBK_aA_0 czBK_aA_1 czBK_aA_2
  have HN := Aside0.mk HB.out.size
  have HW := Aside0.mk (below_step (w := w3) (by repeat (first | with_reducible exact Below.refl _ _ | with_reducible apply below_alloc | with_reducible refine below_set ?_ (Nat.le_refl _) | with_reducible apply pw_below_drewN | with_reducible apply below_drew1)) hb)
  have HZ4 : Aside0 (w3.heap.size ≤ w4.heap.size) := ⟨HW.out.size⟩
  replace HB := Aside0.mk (below_step HB.out HW.out)
  replace F1 := Aside0.mk (Kd.S_below F1.out HW.out)
  replace F2 := Aside0.mk (Kd.R_below F2.out HW.out)
  replace F3 := Aside0.mk (Kd.S_below F3.out HW.out)
  replace BK_aA := Aside0.mk (blk_below BK_aA.out HW.out)
  obtain ⟨lo4_, F4, HLO4⟩ := Own.S_iv (wN := w3) hf4 HN.out (by repeat (first | with_reducible exact Below.refl _ _ | with_reducible apply below_alloc | with_reducible refine below_set ?_ (Nat.le_refl _) | with_reducible apply pw_below_drewN | with_reducible apply below_drew1)) hb
  obtain ⟨lo5_, F5, HLO5⟩ := Own.R_iv (wN := w3) rfl hf5 HN.out (by repeat (first | with_reducible exact Below.refl _ _ | with_reducible apply below_alloc | with_reducible refine below_set ?_ (Nat.le_refl _) | with_reducible apply pw_below_drewN | with_reducible apply below_drew1)) hb
  obtain ⟨A4_, c4_, e4_⟩ := Kd.S_slice F4.out
  subst e4_
  obtain ⟨A5_, c5_, e5_⟩ := Kd.R_slice F5.out
  subst e5_
  clear hb HW HN hf4 hf5
  have czBK_aA_0 : (w4.alloc (.cells #[.int .i64 a0_0, .slice A4_ l0_1.length c4_, .slice A5_ l0_2.length c5_] 29)).cell? ⟨w.heap.size, 0, none⟩ = some (.int .i64 a0_0) := (blk_cell (blk_alloc BK_aA.out _) 0).trans rfl
  have czBK_aA_1 : (w4.alloc (.cells #[.int .i64 a0_0, .slice A4_ l0_1.length c4_, .slice A5_ l0_2.length c5_] 29)).cell? ⟨w.heap.size, 1, none⟩ = some (.slice A0_1 l0_1.length c0_1) := (blk_cell (blk_alloc BK_aA.out _) 1).trans rfl
  have czBK_aA_2 : (w4.alloc (.cells #[.int .i64 a0_0, .slice A4_ l0_1.length c4_, .slice A5_ l0_2.length c5_] 29)).cell? ⟨w.heap.size, 2, none⟩ = some (.slice A0_2 l0_2.length c0_2) := (blk_cell (blk_alloc BK_aA.out _) 2).trans rfl
  go_wp2_with fail
  refine (impl_EqualStates.calls k _ _ _ _ _ _ _ _ _ _ (Kd.C_below (Kd.S_reads' F4.out).2.2 (by repeat (first | with_reducible exact Below.refl _ _ | with_reducible apply below_alloc | with_reducible refine below_set ?_ (Nat.le_refl _) | with_reducible apply pw_below_drewN | with_reducible apply below_drew1))) (Kd.S_reads' F4.out).2.1 (Kd.C_below (Kd.R_reads' F5.out).2.2 (by repeat (first | with_reducible exact Below.refl _ _ | with_reducible apply below_alloc | with_reducible refine below_set ?_ (Nat.le_refl _) | with_reducible apply pw_below_drewN | with_reducible apply below_drew1))) (Kd.R_reads' F5.out).2.1 He_impl.out).mono ?_
  rintro e w5 ⟨vg0_0, rfl, hf6, hb⟩
  clear czBK_aA_0 czBK_aA_1 czBK_aA_2
  have HN := Aside0.mk HB.out.size
  have BK_x0 := Aside0.mk (blk_below (g := w4.heap.size) (o := .cells #[.int .i64 a0_0, .slice A4_ l0_1.length c4_, .slice A5_ l0_2.length c5_] 29 (0, 0)) (by (repeat (first | with_reducible refine blk_drewN ?_ _ | with_reducible refine blk_drew ?_)); exact (blk_new _ _)) hb)
  have HG_BK_x0 : Aside0 (w4.heap.size < w5.heap.size) := ⟨blk_lt BK_x0.out⟩
  have HW := Aside0.mk (below_step (w := w4) (by repeat (first | with_reducible exact Below.refl _ _ | with_reducible apply below_alloc | with_reducible refine below_set ?_ (Nat.le_refl _) | with_reducible apply pw_below_drewN | with_reducible apply below_drew1)) hb)
  have HZ5 : Aside0 (w4.heap.size ≤ w5.heap.size) := ⟨HW.out.size⟩
  replace HB := Aside0.mk (below_step HB.out HW.out)
  replace F1 := Aside0.mk (Kd.S_below F1.out HW.out)
  replace F2 := Aside0.mk (Kd.R_below F2.out HW.out)
  replace F3 := Aside0.mk (Kd.S_below F3.out HW.out)
  replace F4 := Aside0.mk (Kd.S_below F4.out HW.out)
  replace F5 := Aside0.mk (Kd.R_below F5.out HW.out)
  replace BK_aA := Aside0.mk (blk_below BK_aA.out HW.out)
  obtain ⟨lo6_, F6, HLO6⟩ := Own.S_ivb (wN := w4) (w4.heap.size) hf6 HN.out (by repeat (first | with_reducible exact Below.refl _ _ | with_reducible apply below_alloc | with_reducible refine below_set ?_ (Nat.le_refl _) | with_reducible apply pw_below_drewN | with_reducible apply below_drew1)) hb (blk_lt (o := .cells #[.int .i64 a0_0, .slice A4_ l0_1.length c4_, .slice A5_ l0_2.length c5_] 29 (0, 0)) (by (repeat (first | with_reducible refine blk_drewN ?_ _ | with_reducible refine blk_drew ?_)); exact (blk_new _ _)))
  obtain ⟨A6_, c6_, e6_⟩ := Kd.S_slice F6.out
  subst e6_
  clear hb HW HN hf6
  have czBK_aA_0 : w5.cell? ⟨w.heap.size, 0, none⟩ = some (.int .i64 a0_0) := (blk_cell BK_aA.out 0).trans rfl
  have czBK_aA_1 : w5.cell? ⟨w.heap.size, 1, none⟩ = some (.slice A0_1 l0_1.length c0_1) := (blk_cell BK_aA.out 1).trans rfl
  have czBK_aA_2 : w5.cell? ⟨w.heap.size, 2, none⟩ = some (.slice A0_2 l0_2.length c0_2) := (blk_cell BK_aA.out 2).trans rfl
  have czBK_x0_0 : w5.cell? ⟨w4.heap.size, 0, none⟩ = some (.int .i64 a0_0) := (blk_cell BK_x0.out 0).trans rfl
  have czBK_x0_1 : w5.cell? ⟨w4.heap.size, 1, none⟩ = some (.slice A4_ l0_1.length c4_) := (blk_cell BK_x0.out 1).trans rfl
  have czBK_x0_2 : w5.cell? ⟨w4.heap.size, 2, none⟩ = some (.slice A5_ l0_2.length c5_) := (blk_cell BK_x0.out 2).trans rfl
  go_wp2_with fail
  refine (laws_eqIntSS.calls k _ _ _ _ _ _ _ _ (Kd.C_below (Kd.S_reads' F6.out).2.2 (by repeat (first | with_reducible exact Below.refl _ _ | with_reducible apply below_alloc | with_reducible refine below_set ?_ (Nat.le_refl _) | with_reducible apply pw_below_drewN | with_reducible apply below_drew1))) (Kd.S_reads' F6.out).2.1 (Kd.C_below (Kd.S_reads' F3.out).2.2 (by repeat (first | with_reducible exact Below.refl _ _ | with_reducible apply below_alloc | with_reducible refine below_set ?_ (Nat.le_refl _) | with_reducible apply pw_below_drewN | with_reducible apply below_drew1))) (Kd.S_reads' F3.out).2.1 He_eq_w0.out).mono ?_
  rintro e _ ⟨rfl, ⟨nd101_, rfl⟩⟩
  go_wp2_with fail
  refine start_ (n := 5) (S := fun w' => w'.cell? ⟨w4.heap.size, 0, none⟩ = some (.int .i64 a0_0) ∧ w'.cell? ⟨w4.heap.size, 1, none⟩ = some (.slice A4_ l0_1.length c4_) ∧ w'.cell? ⟨w4.heap.size, 2, none⟩ = some (.slice A5_ l0_2.length c5_) ∧ w'.cell? ⟨w.heap.size, 0, none⟩ = some (.int .i64 a0_0) ∧ w'.cell? ⟨w.heap.size, 1, none⟩ = some (.slice A0_1 l0_1.length c0_1) ∧ w'.cell? ⟨w.heap.size, 2, none⟩ = some (.slice A0_2 l0_2.length c0_2)) (ds := []) #[false, false, false, false, false] (by kernel_rfl) rfl rfl ⟨(blk_cell BK_x0.out 0).trans rfl, (blk_cell BK_x0.out 1).trans rfl, (blk_cell BK_x0.out 2).trans rfl, (blk_cell BK_aA.out 0).trans rfl, (blk_cell BK_aA.out 1).trans rfl, (blk_cell BK_aA.out 2).trans rfl⟩ (fun hHeld => ?_)
  refine Own.anew_ (wN := w5) (by repeat (first | with_reducible exact Below.refl _ _ | with_reducible apply below_alloc | with_reducible refine below_set ?_ (Nat.le_refl _) | with_reducible apply pw_below_drewN | with_reducible apply below_drew1)) hHeld (fun w6 hb hHeld => ?_)
  clear czBK_aA_0 czBK_aA_1 czBK_aA_2 czBK_x0_0 czBK_x0_1 czBK_x0_2
  have HW := Aside0.mk hb
  have HZ6 : Aside0 (w5.heap.size ≤ w6.heap.size) := ⟨HW.out.size⟩
  replace HB := Aside0.mk (below_step HB.out HW.out)
  replace F1 := Aside0.mk (Kd.S_below F1.out HW.out)
  replace F2 := Aside0.mk (Kd.R_below F2.out HW.out)
  replace F3 := Aside0.mk (Kd.S_below F3.out HW.out)
  replace F4 := Aside0.mk (Kd.S_below F4.out HW.out)
  replace F5 := Aside0.mk (Kd.R_below F5.out HW.out)
  replace F6 := Aside0.mk (Kd.S_below F6.out HW.out)
  replace BK_aA := Aside0.mk (blk_below BK_aA.out HW.out)
  replace BK_x0 := Aside0.mk (blk_below BK_x0.out HW.out)
  clear hb HW
  refine take_ (i := 0) (N := some 41) (v := ?_) (a' := ?_) #[true, false, false, false, false] rfl rfl (by kernel_rfl) (fun _ _ _ h => h) (Or.inl ⟨by rfl, ?_⟩) hHeld ?_ ?_
  rotate_left
  · rintro w' ⟨s0_, s1_, s2_, s3_, s4_, s5_⟩
    go_simp
    with_reducible rfl
  rotate_left
  · simp only [Act.put, List.setIfInBounds_toArray, List.set_cons_zero, List.set_cons_succ, i64_w, i32_w]
    rfl
  refine take_ (i := 1) (N := some 42) (v := ?_) (a' := ?_) #[true, true, false, false, false] rfl rfl (by kernel_rfl) (fun _ _ _ h => h) (Or.inl ⟨by rfl, ?_⟩) hHeld ?_ ?_
  rotate_left
  · rintro w' ⟨s0_, s1_, s2_, s3_, s4_, s5_⟩
    go_simp
    with_reducible rfl
  rotate_left
  · simp only [Act.put, List.setIfInBounds_toArray, List.set_cons_zero, List.set_cons_succ, i64_w, i32_w]
    rfl
  refine one_ (i := 2) (N := some 43) #[true, true, true, false, false] rfl rfl (by kernel_rfl) (by decide) (fun K hK => ?_)
  refine goes_ Try.func10 (by kernel_rfl) rfl #[.agg #[.int .i64 a0_0, .slice A0_1 l0_1.length c0_1, .slice A0_2 l0_2.length c0_2]] (by rfl) rfl rfl (by (try simp only [List.map_toArray, List.map_cons, List.map_nil]); first | done | rfl | (simp only [List.length_drop, List.length_take]; rfl)) ?_
  with_reducible refine (laws_toAutomaton.calls k _ _ _ _ _ _ _ _ _ _ _ (Kd.C_below HR0_1.out (below_step HB.out (by repeat (first | with_reducible exact Below.refl _ _ | with_reducible apply below_alloc | with_reducible refine below_set ?_ (Nat.le_refl _) | with_reducible apply pw_below_drewN | with_reducible apply below_drew1)))) HC0_1.out (Kd.C_below HR0_2.out (below_step HB.out (by repeat (first | with_reducible exact Below.refl _ _ | with_reducible apply below_alloc | with_reducible refine below_set ?_ (Nat.le_refl _) | with_reducible apply pw_below_drewN | with_reducible apply below_drew1)))) HC0_2.out He_to_aA.out).mono ?_
  rintro e w7 ⟨vq6_0, vq6_1, rfl, hf7, hf8, hb⟩
  refine ⟨_, rfl, ?_⟩
  have HN := Aside0.mk HB.out.size
  have HW := Aside0.mk (below_step (w := w6) (by repeat (first | with_reducible exact Below.refl _ _ | with_reducible apply below_alloc | with_reducible refine below_set ?_ (Nat.le_refl _) | with_reducible apply pw_below_drewN | with_reducible apply below_drew1)) hb)
  have HZ7 : Aside0 (w6.heap.size ≤ w7.heap.size) := ⟨HW.out.size⟩
  replace HB := Aside0.mk (below_step HB.out HW.out)
  replace F1 := Aside0.mk (Kd.S_below F1.out HW.out)
  replace F2 := Aside0.mk (Kd.R_below F2.out HW.out)
  replace F3 := Aside0.mk (Kd.S_below F3.out HW.out)
  replace F4 := Aside0.mk (Kd.S_below F4.out HW.out)
  replace F5 := Aside0.mk (Kd.R_below F5.out HW.out)
  replace F6 := Aside0.mk (Kd.S_below F6.out HW.out)
  replace BK_aA := Aside0.mk (blk_below BK_aA.out HW.out)
  replace BK_x0 := Aside0.mk (blk_below BK_x0.out HW.out)
  obtain ⟨lo7_, F7, HLO7⟩ := Own.S_iv (wN := w6) hf7 HN.out (by repeat (first | with_reducible exact Below.refl _ _ | with_reducible apply below_alloc | with_reducible refine below_set ?_ (Nat.le_refl _) | with_reducible apply pw_below_drewN | with_reducible apply below_drew1)) hb
  obtain ⟨lo8_, F8, HLO8⟩ := Own.R_iv (wN := w6) rfl hf8 HN.out (by repeat (first | with_reducible exact Below.refl _ _ | with_reducible apply below_alloc | with_reducible refine below_set ?_ (Nat.le_refl _) | with_reducible apply pw_below_drewN | with_reducible apply below_drew1)) hb
  obtain ⟨A7_, c7_, e7_⟩ := Kd.S_slice F7.out
  subst e7_
  obtain ⟨A8_, c8_, e8_⟩ := Kd.R_slice F8.out
  subst e8_
  clear hb HW HN hf7 hf8
  refine hK.out _ _ ⟨(blk_cell BK_x0.out 0).trans rfl, (blk_cell BK_x0.out 1).trans rfl, (blk_cell BK_x0.out 2).trans rfl, (blk_cell BK_aA.out 0).trans rfl, (blk_cell BK_aA.out 1).trans rfl, (blk_cell BK_aA.out 2).trans rfl⟩ (fun hHeld => ?_)
  clear hK K
  refine norm_ (a' := ?_) ?_ ?_
  rotate_left
  · show Act.put _ (some 43) _ = _
    simp only [Act.put, List.setIfInBounds_toArray, List.set_cons_zero, List.set_cons_succ, i64_w, i32_w]
    rfl
  refine one_ (i := 3) (N := some 44) #[true, true, true, true, false] rfl rfl (by kernel_rfl) (by decide) (fun K hK => ?_)
  refine goes_ Try.func12 (by kernel_rfl) rfl #[.agg #[.int .i64 a0_0, .slice A4_ l0_1.length c4_, .slice A5_ l0_2.length c5_], .agg #[.int .i64 a0_0, .slice A7_ l0_1.length c7_, .slice A8_ l0_2.length c8_]] (by rfl) rfl rfl (by (try simp only [List.map_toArray, List.map_cons, List.map_nil]); first | done | rfl | (simp only [List.length_drop, List.length_take]; rfl)) ?_
  with_reducible refine (laws_eqAutomaton.calls k _ _ _ _ _ _ _ _ _ _ _ _ _ _ _ _ (Kd.C_below (Kd.S_reads' F4.out).2.2 (by repeat (first | with_reducible exact Below.refl _ _ | with_reducible apply below_alloc | with_reducible refine below_set ?_ (Nat.le_refl _) | with_reducible apply pw_below_drewN | with_reducible apply below_drew1))) (Kd.S_reads' F4.out).2.1 (Kd.C_below (Kd.R_reads' F5.out).2.2 (by repeat (first | with_reducible exact Below.refl _ _ | with_reducible apply below_alloc | with_reducible refine below_set ?_ (Nat.le_refl _) | with_reducible apply pw_below_drewN | with_reducible apply below_drew1))) (Kd.R_reads' F5.out).2.1 (Kd.C_below (Kd.S_reads' F7.out).2.2 (by repeat (first | with_reducible exact Below.refl _ _ | with_reducible apply below_alloc | with_reducible refine below_set ?_ (Nat.le_refl _) | with_reducible apply pw_below_drewN | with_reducible apply below_drew1))) (Kd.S_reads' F7.out).2.1 (Kd.C_below (Kd.R_reads' F8.out).2.2 (by repeat (first | with_reducible exact Below.refl _ _ | with_reducible apply below_alloc | with_reducible refine below_set ?_ (Nat.le_refl _) | with_reducible apply pw_below_drewN | with_reducible apply below_drew1))) (Kd.R_reads' F8.out).2.1 He_eq_x0.out).mono ?_
  rintro e w8 ⟨rfl, hb⟩
  refine ⟨_, rfl, ?_⟩
  have HW := Aside0.mk (below_step (w := w7) (by repeat (first | with_reducible exact Below.refl _ _ | with_reducible apply below_alloc | with_reducible refine below_set ?_ (Nat.le_refl _) | with_reducible apply pw_below_drewN | with_reducible apply below_drew1)) hb)
  have HZ8 : Aside0 (w7.heap.size ≤ w8.heap.size) := ⟨HW.out.size⟩
  replace HB := Aside0.mk (below_step HB.out HW.out)
  replace F1 := Aside0.mk (Kd.S_below F1.out HW.out)
  replace F2 := Aside0.mk (Kd.R_below F2.out HW.out)
  replace F3 := Aside0.mk (Kd.S_below F3.out HW.out)
  replace F4 := Aside0.mk (Kd.S_below F4.out HW.out)
  replace F5 := Aside0.mk (Kd.R_below F5.out HW.out)
  replace F6 := Aside0.mk (Kd.S_below F6.out HW.out)
  replace BK_aA := Aside0.mk (blk_below BK_aA.out HW.out)
  replace BK_x0 := Aside0.mk (blk_below BK_x0.out HW.out)
  clear hb HW
  refine hK.out _ _ ⟨(blk_cell BK_x0.out 0).trans rfl, (blk_cell BK_x0.out 1).trans rfl, (blk_cell BK_x0.out 2).trans rfl, (blk_cell BK_aA.out 0).trans rfl, (blk_cell BK_aA.out 1).trans rfl, (blk_cell BK_aA.out 2).trans rfl⟩ (fun hHeld => ?_)
  clear hK K
  refine norm_ (a' := ?_) ?_ ?_
  rotate_left
  · show Act.put _ (some 44) _ = _
    simp only [Act.put, List.setIfInBounds_toArray, List.set_cons_zero, List.set_cons_succ, i64_w, i32_w]
    rfl
  refine pure_ (i := 4) (N := some 45) (v := ?_) (a' := ?_) #[true, true, true, true, true] rfl rfl (by kernel_rfl) (fun _ _ _ h => h) (Or.inl ⟨by rfl, ?_⟩) ?_ ?_
  rotate_left
  · intro w'
    go_simp
    with_reducible rfl
  rotate_left
  · simp only [Act.put, List.setIfInBounds_toArray, List.set_cons_zero, List.set_cons_succ, i64_w, i32_w]
    rfl
  refine done_ (by kernel_rfl) ?_
  clear hHeld
  have czBK_aA_0 : w8.cell? ⟨w.heap.size, 0, none⟩ = some (.int .i64 a0_0) := (blk_cell BK_aA.out 0).trans rfl
  have czBK_aA_1 : w8.cell? ⟨w.heap.size, 1, none⟩ = some (.slice A0_1 l0_1.length c0_1) := (blk_cell BK_aA.out 1).trans rfl
  have czBK_aA_2 : w8.cell? ⟨w.heap.size, 2, none⟩ = some (.slice A0_2 l0_2.length c0_2) := (blk_cell BK_aA.out 2).trans rfl
  have czBK_x0_0 : w8.cell? ⟨w4.heap.size, 0, none⟩ = some (.int .i64 a0_0) := (blk_cell BK_x0.out 0).trans rfl
  have czBK_x0_1 : w8.cell? ⟨w4.heap.size, 1, none⟩ = some (.slice A4_ l0_1.length c4_) := (blk_cell BK_x0.out 1).trans rfl
  have czBK_x0_2 : w8.cell? ⟨w4.heap.size, 2, none⟩ = some (.slice A5_ l0_2.length c5_) := (blk_cell BK_x0.out 2).trans rfl
  go_wp2_with fail
  refine (laws_markAutomaton.calls k _ _ _ _ _ _ _ _ _ _ _ w _ (below_step HB.out (by repeat (first | with_reducible exact Below.refl _ _ | with_reducible apply below_alloc | with_reducible refine below_set ?_ (Nat.le_refl _) | with_reducible apply pw_below_drewN | with_reducible apply below_drew1))) (Kd.S_below F4.out (by repeat (first | with_reducible exact Below.refl _ _ | with_reducible apply below_alloc | with_reducible refine below_set ?_ (Nat.le_refl _) | with_reducible apply pw_below_drewN | with_reducible apply below_drew1))) (Kd.R_below F5.out (by repeat (first | with_reducible exact Below.refl _ _ | with_reducible apply below_alloc | with_reducible refine below_set ?_ (Nat.le_refl _) | with_reducible apply pw_below_drewN | with_reducible apply below_drew1))) (fun k_ h1 h2 => h1.1 h2.1) He_mark_x0.out).mono ?_
  rintro e w9 ⟨rfl, hf_F4, hf_F5, hb, hk⟩
  clear czBK_aA_0 czBK_aA_1 czBK_aA_2 czBK_x0_0 czBK_x0_1 czBK_x0_2
  have HW := Aside0.mk ((Kept.of_below (w := w8) (by repeat (first | with_reducible exact Below.refl _ _ | with_reducible apply below_alloc | with_reducible refine below_set ?_ (Nat.le_refl _) | with_reducible apply pw_below_drewN | with_reducible apply below_drew1)) _).then_ hk (fun _ h_ => .inl h_))
  have HZ9 : Aside0 (w8.heap.size ≤ w9.heap.size) := ⟨HW.out.1⟩
  replace HB := Aside0.mk hb
  replace F1 := Aside0.mk (Kd.S_kept F1.out HW.out (fun k_ h1 h2 => by have z1_ := HZ1.out; have z2_ := HZ2.out; have z3_ := HZ3.out; have z4_ := HZ4.out; have z5_ := HZ5.out; have z6_ := HZ6.out; have z7_ := HZ7.out; have z8_ := HZ8.out; have zg0_ := HG_BK_aA.out; have zg1_ := HG_BK_x0.out; have zl0_ := HLO1.out; have zl1_ := HLO2.out; have zl2_ := HLO3.out; have zl3_ := HLO4.out; have zl4_ := HLO5.out; have zl5_ := HLO6.out; have zl6_ := HLO7.out; have zl7_ := HLO8.out; omega))
  replace F2 := Aside0.mk (Kd.R_kept F2.out HW.out (fun k_ h1 h2 => by have z1_ := HZ1.out; have z2_ := HZ2.out; have z3_ := HZ3.out; have z4_ := HZ4.out; have z5_ := HZ5.out; have z6_ := HZ6.out; have z7_ := HZ7.out; have z8_ := HZ8.out; have zg0_ := HG_BK_aA.out; have zg1_ := HG_BK_x0.out; have zl0_ := HLO1.out; have zl1_ := HLO2.out; have zl2_ := HLO3.out; have zl3_ := HLO4.out; have zl4_ := HLO5.out; have zl5_ := HLO6.out; have zl6_ := HLO7.out; have zl7_ := HLO8.out; omega))
  replace F3 := Aside0.mk (Kd.S_kept F3.out HW.out (fun k_ h1 h2 => by have z1_ := HZ1.out; have z2_ := HZ2.out; have z3_ := HZ3.out; have z4_ := HZ4.out; have z5_ := HZ5.out; have z6_ := HZ6.out; have z7_ := HZ7.out; have z8_ := HZ8.out; have zg0_ := HG_BK_aA.out; have zg1_ := HG_BK_x0.out; have zl0_ := HLO1.out; have zl1_ := HLO2.out; have zl2_ := HLO3.out; have zl3_ := HLO4.out; have zl4_ := HLO5.out; have zl5_ := HLO6.out; have zl6_ := HLO7.out; have zl7_ := HLO8.out; omega))
  replace F6 := Aside0.mk (Kd.S_kept F6.out HW.out (fun k_ h1 h2 => by have z1_ := HZ1.out; have z2_ := HZ2.out; have z3_ := HZ3.out; have z4_ := HZ4.out; have z5_ := HZ5.out; have z6_ := HZ6.out; have z7_ := HZ7.out; have z8_ := HZ8.out; have zg0_ := HG_BK_aA.out; have zg1_ := HG_BK_x0.out; have zl0_ := HLO1.out; have zl1_ := HLO2.out; have zl2_ := HLO3.out; have zl3_ := HLO4.out; have zl4_ := HLO5.out; have zl5_ := HLO6.out; have zl6_ := HLO7.out; have zl7_ := HLO8.out; omega))
  replace BK_aA := Aside0.mk (blk_kept BK_aA.out HW.out (fun h2 => by have z1_ := HZ1.out; have z2_ := HZ2.out; have z3_ := HZ3.out; have z4_ := HZ4.out; have z5_ := HZ5.out; have z6_ := HZ6.out; have z7_ := HZ7.out; have z8_ := HZ8.out; have zg0_ := HG_BK_aA.out; have zg1_ := HG_BK_x0.out; have zl0_ := HLO1.out; have zl1_ := HLO2.out; have zl2_ := HLO3.out; have zl3_ := HLO4.out; have zl4_ := HLO5.out; have zl5_ := HLO6.out; have zl6_ := HLO7.out; have zl7_ := HLO8.out; omega))
  replace BK_x0 := Aside0.mk (blk_kept BK_x0.out HW.out (fun h2 => by have z1_ := HZ1.out; have z2_ := HZ2.out; have z3_ := HZ3.out; have z4_ := HZ4.out; have z5_ := HZ5.out; have z6_ := HZ6.out; have z7_ := HZ7.out; have z8_ := HZ8.out; have zg0_ := HG_BK_aA.out; have zg1_ := HG_BK_x0.out; have zl0_ := HLO1.out; have zl1_ := HLO2.out; have zl2_ := HLO3.out; have zl3_ := HLO4.out; have zl4_ := HLO5.out; have zl5_ := HLO6.out; have zl6_ := HLO7.out; have zl7_ := HLO8.out; omega))
  replace F4 := Aside0.mk hf_F4
  have HQ := Aside0.mk (Kd.S_reads' F4.out).1
  rw [HQ.out] at F4
  rw [HQ.out] at BK_x0
  clear HQ
  replace F5 := Aside0.mk (Own.R_ok hf_F5 F5.out.1)
  have HQ := Aside0.mk (Kd.R_reads' F5.out).1
  rw [HQ.out] at F5
  rw [HQ.out] at BK_x0
  clear HQ
  clear hb hk HW hf_F4 hf_F5
  have czBK_aA_0 : w9.cell? ⟨w.heap.size, 0, none⟩ = some (.int .i64 a0_0) := (blk_cell BK_aA.out 0).trans rfl
  have czBK_aA_1 : w9.cell? ⟨w.heap.size, 1, none⟩ = some (.slice A0_1 l0_1.length c0_1) := (blk_cell BK_aA.out 1).trans rfl
  have czBK_aA_2 : w9.cell? ⟨w.heap.size, 2, none⟩ = some (.slice A0_2 l0_2.length c0_2) := (blk_cell BK_aA.out 2).trans rfl
  have czBK_x0_0 : w9.cell? ⟨w4.heap.size, 0, none⟩ = some (.int .i64 a0_0) := (blk_cell BK_x0.out 0).trans rfl
  have czBK_x0_1 : w9.cell? ⟨w4.heap.size, 1, none⟩ = some (.slice A4_ nx0_1.length c4_) := (blk_cell BK_x0.out 1).trans rfl
  have czBK_x0_2 : w9.cell? ⟨w4.heap.size, 2, none⟩ = some (.slice A5_ nx0_2.length c5_) := (blk_cell BK_x0.out 2).trans rfl
  go_wp2_with fail
  refine (laws_eqIntSS.calls k _ _ _ _ _ _ _ _ (Kd.C_below (Kd.S_reads' F6.out).2.2 (by repeat (first | with_reducible exact Below.refl _ _ | with_reducible apply below_alloc | with_reducible refine below_set ?_ (Nat.le_refl _) | with_reducible apply pw_below_drewN | with_reducible apply below_drew1))) (Kd.S_reads' F6.out).2.1 (Kd.C_below (Kd.S_reads' F3.out).2.2 (by repeat (first | with_reducible exact Below.refl _ _ | with_reducible apply below_alloc | with_reducible refine below_set ?_ (Nat.le_refl _) | with_reducible apply pw_below_drewN | with_reducible apply below_drew1))) (Kd.S_reads' F3.out).2.1 He_eq_w0.out).mono ?_
  rintro e _ ⟨rfl, ⟨nd237_, rfl⟩⟩
  go_wp2_with fail
  refine (laws_markIntSS.calls k _ _ _ _ _ _ w _ (below_step HB.out (by repeat (first | with_reducible exact Below.refl _ _ | with_reducible apply below_alloc | with_reducible refine below_set ?_ (Nat.le_refl _) | with_reducible apply pw_below_drewN | with_reducible apply below_drew1))) (Kd.S_below F6.out (by repeat (first | with_reducible exact Below.refl _ _ | with_reducible apply below_alloc | with_reducible refine below_set ?_ (Nat.le_refl _) | with_reducible apply pw_below_drewN | with_reducible apply below_drew1))) He_mark_g0.out).mono ?_
  rintro e w10 ⟨rfl, hf_F6, hb, hk⟩
  clear czBK_aA_0 czBK_aA_1 czBK_aA_2 czBK_x0_0 czBK_x0_1 czBK_x0_2
  have HW := Aside0.mk ((Kept.of_below (w := w9) (by repeat (first | with_reducible exact Below.refl _ _ | with_reducible apply below_alloc | with_reducible refine below_set ?_ (Nat.le_refl _) | with_reducible apply pw_below_drewN | with_reducible apply below_drew1)) _).then_ hk (fun _ h_ => .inl h_))
  have HZ10 : Aside0 (w9.heap.size ≤ w10.heap.size) := ⟨HW.out.1⟩
  replace HB := Aside0.mk hb
  replace F1 := Aside0.mk (Kd.S_kept F1.out HW.out (fun k_ h1 h2 => by have z1_ := HZ1.out; have z2_ := HZ2.out; have z3_ := HZ3.out; have z4_ := HZ4.out; have z5_ := HZ5.out; have z6_ := HZ6.out; have z7_ := HZ7.out; have z8_ := HZ8.out; have z9_ := HZ9.out; have zg0_ := HG_BK_aA.out; have zg1_ := HG_BK_x0.out; have zl0_ := HLO1.out; have zl1_ := HLO2.out; have zl2_ := HLO3.out; have zl3_ := HLO4.out; have zl4_ := HLO5.out; have zl5_ := HLO6.out; have zl6_ := HLO7.out; have zl7_ := HLO8.out; omega))
  replace F2 := Aside0.mk (Kd.R_kept F2.out HW.out (fun k_ h1 h2 => by have z1_ := HZ1.out; have z2_ := HZ2.out; have z3_ := HZ3.out; have z4_ := HZ4.out; have z5_ := HZ5.out; have z6_ := HZ6.out; have z7_ := HZ7.out; have z8_ := HZ8.out; have z9_ := HZ9.out; have zg0_ := HG_BK_aA.out; have zg1_ := HG_BK_x0.out; have zl0_ := HLO1.out; have zl1_ := HLO2.out; have zl2_ := HLO3.out; have zl3_ := HLO4.out; have zl4_ := HLO5.out; have zl5_ := HLO6.out; have zl6_ := HLO7.out; have zl7_ := HLO8.out; omega))
  replace F3 := Aside0.mk (Kd.S_kept F3.out HW.out (fun k_ h1 h2 => by have z1_ := HZ1.out; have z2_ := HZ2.out; have z3_ := HZ3.out; have z4_ := HZ4.out; have z5_ := HZ5.out; have z6_ := HZ6.out; have z7_ := HZ7.out; have z8_ := HZ8.out; have z9_ := HZ9.out; have zg0_ := HG_BK_aA.out; have zg1_ := HG_BK_x0.out; have zl0_ := HLO1.out; have zl1_ := HLO2.out; have zl2_ := HLO3.out; have zl3_ := HLO4.out; have zl4_ := HLO5.out; have zl5_ := HLO6.out; have zl6_ := HLO7.out; have zl7_ := HLO8.out; omega))
  replace F4 := Aside0.mk (Kd.S_kept F4.out HW.out (fun k_ h1 h2 => by have z1_ := HZ1.out; have z2_ := HZ2.out; have z3_ := HZ3.out; have z4_ := HZ4.out; have z5_ := HZ5.out; have z6_ := HZ6.out; have z7_ := HZ7.out; have z8_ := HZ8.out; have z9_ := HZ9.out; have zg0_ := HG_BK_aA.out; have zg1_ := HG_BK_x0.out; have zl0_ := HLO1.out; have zl1_ := HLO2.out; have zl2_ := HLO3.out; have zl3_ := HLO4.out; have zl4_ := HLO5.out; have zl5_ := HLO6.out; have zl6_ := HLO7.out; have zl7_ := HLO8.out; omega))
  replace F5 := Aside0.mk (Kd.R_kept F5.out HW.out (fun k_ h1 h2 => by have z1_ := HZ1.out; have z2_ := HZ2.out; have z3_ := HZ3.out; have z4_ := HZ4.out; have z5_ := HZ5.out; have z6_ := HZ6.out; have z7_ := HZ7.out; have z8_ := HZ8.out; have z9_ := HZ9.out; have zg0_ := HG_BK_aA.out; have zg1_ := HG_BK_x0.out; have zl0_ := HLO1.out; have zl1_ := HLO2.out; have zl2_ := HLO3.out; have zl3_ := HLO4.out; have zl4_ := HLO5.out; have zl5_ := HLO6.out; have zl6_ := HLO7.out; have zl7_ := HLO8.out; omega))
  replace BK_aA := Aside0.mk (blk_kept BK_aA.out HW.out (fun h2 => by have z1_ := HZ1.out; have z2_ := HZ2.out; have z3_ := HZ3.out; have z4_ := HZ4.out; have z5_ := HZ5.out; have z6_ := HZ6.out; have z7_ := HZ7.out; have z8_ := HZ8.out; have z9_ := HZ9.out; have zg0_ := HG_BK_aA.out; have zg1_ := HG_BK_x0.out; have zl0_ := HLO1.out; have zl1_ := HLO2.out; have zl2_ := HLO3.out; have zl3_ := HLO4.out; have zl4_ := HLO5.out; have zl5_ := HLO6.out; have zl6_ := HLO7.out; have zl7_ := HLO8.out; omega))
  replace BK_x0 := Aside0.mk (blk_kept BK_x0.out HW.out (fun h2 => by have z1_ := HZ1.out; have z2_ := HZ2.out; have z3_ := HZ3.out; have z4_ := HZ4.out; have z5_ := HZ5.out; have z6_ := HZ6.out; have z7_ := HZ7.out; have z8_ := HZ8.out; have z9_ := HZ9.out; have zg0_ := HG_BK_aA.out; have zg1_ := HG_BK_x0.out; have zl0_ := HLO1.out; have zl1_ := HLO2.out; have zl2_ := HLO3.out; have zl3_ := HLO4.out; have zl4_ := HLO5.out; have zl5_ := HLO6.out; have zl6_ := HLO7.out; have zl7_ := HLO8.out; omega))
  replace F6 := Aside0.mk hf_F6
  have HQ := Aside0.mk (Kd.S_reads' F6.out).1
  rw [HQ.out] at F6
  (try rw [HQ.out])
  clear HQ
  clear hb hk HW hf_F6
  have czBK_aA_0 : w10.cell? ⟨w.heap.size, 0, none⟩ = some (.int .i64 a0_0) := (blk_cell BK_aA.out 0).trans rfl
  have czBK_aA_1 : w10.cell? ⟨w.heap.size, 1, none⟩ = some (.slice A0_1 l0_1.length c0_1) := (blk_cell BK_aA.out 1).trans rfl
  have czBK_aA_2 : w10.cell? ⟨w.heap.size, 2, none⟩ = some (.slice A0_2 l0_2.length c0_2) := (blk_cell BK_aA.out 2).trans rfl
  have czBK_x0_0 : w10.cell? ⟨w4.heap.size, 0, none⟩ = some (.int .i64 a0_0) := (blk_cell BK_x0.out 0).trans rfl
  have czBK_x0_1 : w10.cell? ⟨w4.heap.size, 1, none⟩ = some (.slice A4_ nx0_1.length c4_) := (blk_cell BK_x0.out 1).trans rfl
  have czBK_x0_2 : w10.cell? ⟨w4.heap.size, 2, none⟩ = some (.slice A5_ nx0_2.length c5_) := (blk_cell BK_x0.out 2).trans rfl
  go_wp2_with fail
  refine (laws_heldIntSS.calls k _ _ _ _ _ _ (Kd.C_below (Kd.S_reads' F6.out).2.2 (by repeat (first | with_reducible exact Below.refl _ _ | with_reducible apply below_alloc | with_reducible refine below_set ?_ (Nat.le_refl _) | with_reducible apply pw_below_drewN | with_reducible apply below_drew1))) (Kd.S_reads' F6.out).2.1 He_held_g0.out).mono ?_
  rintro e _ ⟨rfl, ⟨nh266_, rfl⟩⟩
  go_wp2_with fail
  refine (laws_toAutomaton.calls k _ _ _ _ _ _ _ _ _ _ _ (Kd.C_below HR0_1.out (below_step HB.out (by repeat (first | with_reducible exact Below.refl _ _ | with_reducible apply below_alloc | with_reducible refine below_set ?_ (Nat.le_refl _) | with_reducible apply pw_below_drewN | with_reducible apply below_drew1)))) HC0_1.out (Kd.C_below HR0_2.out (below_step HB.out (by repeat (first | with_reducible exact Below.refl _ _ | with_reducible apply below_alloc | with_reducible refine below_set ?_ (Nat.le_refl _) | with_reducible apply pw_below_drewN | with_reducible apply below_drew1)))) HC0_2.out He_to_aA.out).mono ?_
  rintro e w11 ⟨vt267_0, vt267_1, rfl, hf9, hf10, hb⟩
  clear czBK_aA_0 czBK_aA_1 czBK_aA_2 czBK_x0_0 czBK_x0_1 czBK_x0_2
  have HN := Aside0.mk HB.out.size
  have HW := Aside0.mk (below_step (w := w10) (by repeat (first | with_reducible exact Below.refl _ _ | with_reducible apply below_alloc | with_reducible refine below_set ?_ (Nat.le_refl _) | with_reducible apply pw_below_drewN | with_reducible apply below_drew1)) hb)
  have HZ11 : Aside0 (w10.heap.size ≤ w11.heap.size) := ⟨HW.out.size⟩
  replace HB := Aside0.mk (below_step HB.out HW.out)
  replace F1 := Aside0.mk (Kd.S_below F1.out HW.out)
  replace F2 := Aside0.mk (Kd.R_below F2.out HW.out)
  replace F3 := Aside0.mk (Kd.S_below F3.out HW.out)
  replace F4 := Aside0.mk (Kd.S_below F4.out HW.out)
  replace F5 := Aside0.mk (Kd.R_below F5.out HW.out)
  replace F6 := Aside0.mk (Kd.S_below F6.out HW.out)
  replace BK_aA := Aside0.mk (blk_below BK_aA.out HW.out)
  replace BK_x0 := Aside0.mk (blk_below BK_x0.out HW.out)
  obtain ⟨lo9_, F9, HLO9⟩ := Own.S_iv (wN := w10) hf9 HN.out (by repeat (first | with_reducible exact Below.refl _ _ | with_reducible apply below_alloc | with_reducible refine below_set ?_ (Nat.le_refl _) | with_reducible apply pw_below_drewN | with_reducible apply below_drew1)) hb
  obtain ⟨lo10_, F10, HLO10⟩ := Own.R_iv (wN := w10) rfl hf10 HN.out (by repeat (first | with_reducible exact Below.refl _ _ | with_reducible apply below_alloc | with_reducible refine below_set ?_ (Nat.le_refl _) | with_reducible apply pw_below_drewN | with_reducible apply below_drew1)) hb
  obtain ⟨A9_, c9_, e9_⟩ := Kd.S_slice F9.out
  subst e9_
  obtain ⟨A10_, c10_, e10_⟩ := Kd.R_slice F10.out
  subst e10_
  clear hb HW HN hf9 hf10
  have czBK_aA_0 : w11.cell? ⟨w.heap.size, 0, none⟩ = some (.int .i64 a0_0) := (blk_cell BK_aA.out 0).trans rfl
  have czBK_aA_1 : w11.cell? ⟨w.heap.size, 1, none⟩ = some (.slice A0_1 l0_1.length c0_1) := (blk_cell BK_aA.out 1).trans rfl
  have czBK_aA_2 : w11.cell? ⟨w.heap.size, 2, none⟩ = some (.slice A0_2 l0_2.length c0_2) := (blk_cell BK_aA.out 2).trans rfl
  have czBK_x0_0 : w11.cell? ⟨w4.heap.size, 0, none⟩ = some (.int .i64 a0_0) := (blk_cell BK_x0.out 0).trans rfl
  have czBK_x0_1 : w11.cell? ⟨w4.heap.size, 1, none⟩ = some (.slice A4_ nx0_1.length c4_) := (blk_cell BK_x0.out 1).trans rfl
  have czBK_x0_2 : w11.cell? ⟨w4.heap.size, 2, none⟩ = some (.slice A5_ nx0_2.length c5_) := (blk_cell BK_x0.out 2).trans rfl
  go_wp2_with fail
  refine (impl_EqualStates.calls k _ _ _ _ _ _ _ _ _ _ (Kd.C_below (Kd.S_reads' F9.out).2.2 (by repeat (first | with_reducible exact Below.refl _ _ | with_reducible apply below_alloc | with_reducible refine below_set ?_ (Nat.le_refl _) | with_reducible apply pw_below_drewN | with_reducible apply below_drew1))) (Kd.S_reads' F9.out).2.1 (Kd.C_below (Kd.R_reads' F10.out).2.2 (by repeat (first | with_reducible exact Below.refl _ _ | with_reducible apply below_alloc | with_reducible refine below_set ?_ (Nat.le_refl _) | with_reducible apply pw_below_drewN | with_reducible apply below_drew1))) (Kd.R_reads' F10.out).2.1 He_impl.out).mono ?_
  rintro e w12 ⟨vh0_0, rfl, hf11, hb⟩
  clear czBK_aA_0 czBK_aA_1 czBK_aA_2 czBK_x0_0 czBK_x0_1 czBK_x0_2
  have HN := Aside0.mk HB.out.size
  have HW := Aside0.mk (below_step (w := w11) (by repeat (first | with_reducible exact Below.refl _ _ | with_reducible apply below_alloc | with_reducible refine below_set ?_ (Nat.le_refl _) | with_reducible apply pw_below_drewN | with_reducible apply below_drew1)) hb)
  have HZ12 : Aside0 (w11.heap.size ≤ w12.heap.size) := ⟨HW.out.size⟩
  replace HB := Aside0.mk (below_step HB.out HW.out)
  replace F1 := Aside0.mk (Kd.S_below F1.out HW.out)
  replace F2 := Aside0.mk (Kd.R_below F2.out HW.out)
  replace F3 := Aside0.mk (Kd.S_below F3.out HW.out)
  replace F4 := Aside0.mk (Kd.S_below F4.out HW.out)
  replace F5 := Aside0.mk (Kd.R_below F5.out HW.out)
  replace F6 := Aside0.mk (Kd.S_below F6.out HW.out)
  replace F9 := Aside0.mk (Kd.S_below F9.out HW.out)
  replace F10 := Aside0.mk (Kd.R_below F10.out HW.out)
  replace BK_aA := Aside0.mk (blk_below BK_aA.out HW.out)
  replace BK_x0 := Aside0.mk (blk_below BK_x0.out HW.out)
  obtain ⟨lo11_, F11, HLO11⟩ := Own.S_iv (wN := w11) hf11 HN.out (by repeat (first | with_reducible exact Below.refl _ _ | with_reducible apply below_alloc | with_reducible refine below_set ?_ (Nat.le_refl _) | with_reducible apply pw_below_drewN | with_reducible apply below_drew1)) hb
  obtain ⟨A11_, c11_, e11_⟩ := Kd.S_slice F11.out
  subst e11_
  clear hb HW HN hf11
  have czBK_aA_0 : w12.cell? ⟨w.heap.size, 0, none⟩ = some (.int .i64 a0_0) := (blk_cell BK_aA.out 0).trans rfl
  have czBK_aA_1 : w12.cell? ⟨w.heap.size, 1, none⟩ = some (.slice A0_1 l0_1.length c0_1) := (blk_cell BK_aA.out 1).trans rfl
  have czBK_aA_2 : w12.cell? ⟨w.heap.size, 2, none⟩ = some (.slice A0_2 l0_2.length c0_2) := (blk_cell BK_aA.out 2).trans rfl
  have czBK_x0_0 : w12.cell? ⟨w4.heap.size, 0, none⟩ = some (.int .i64 a0_0) := (blk_cell BK_x0.out 0).trans rfl
  have czBK_x0_1 : w12.cell? ⟨w4.heap.size, 1, none⟩ = some (.slice A4_ nx0_1.length c4_) := (blk_cell BK_x0.out 1).trans rfl
  have czBK_x0_2 : w12.cell? ⟨w4.heap.size, 2, none⟩ = some (.slice A5_ nx0_2.length c5_) := (blk_cell BK_x0.out 2).trans rfl
  go_wp2_with fail
  refine (laws_eqIntSS.calls k _ _ _ _ _ _ _ _ (Kd.C_below (Kd.S_reads' F11.out).2.2 (by repeat (first | with_reducible exact Below.refl _ _ | with_reducible apply below_alloc | with_reducible refine below_set ?_ (Nat.le_refl _) | with_reducible apply pw_below_drewN | with_reducible apply below_drew1))) (Kd.S_reads' F11.out).2.1 (Kd.C_below (Kd.S_reads' F3.out).2.2 (by repeat (first | with_reducible exact Below.refl _ _ | with_reducible apply below_alloc | with_reducible refine below_set ?_ (Nat.le_refl _) | with_reducible apply pw_below_drewN | with_reducible apply below_drew1))) (Kd.S_reads' F3.out).2.1 He_eq_w0.out).mono ?_
  rintro e _ ⟨rfl, ⟨nd326_, rfl⟩⟩
  go_wp2_with fail
  refine (laws_heldIntSS.calls k _ _ _ _ _ _ (Kd.C_below (Kd.S_reads' F6.out).2.2 (by repeat (first | with_reducible exact Below.refl _ _ | with_reducible apply below_alloc | with_reducible refine below_set ?_ (Nat.le_refl _) | with_reducible apply pw_below_drewN | with_reducible apply below_drew1))) (Kd.S_reads' F6.out).2.1 He_held_g0.out).mono ?_
  rintro e _ ⟨rfl, ⟨nh329_, rfl⟩⟩
  go_wp2_with fail
  go_ret
  exact ⟨rfl, below_step HB.out (by repeat (first | with_reducible exact Below.refl _ _ | with_reducible apply below_alloc | with_reducible refine below_set ?_ (Nat.le_refl _) | with_reducible apply pw_below_drewN | with_reducible apply below_drew1))⟩
end Go.Proofs.Ytadhbepoblllhaa.P
end

section
/- What marking and holding come to: the numbers m, m + 1, .. through all rows. -/
namespace Go.Proofs.Ytadhbepoblllhaa.A
open Go.RowKit Go.Proofs.YtadhbepoblllhaaW.PrintWords Go.Proofs.YtadhbepoblllhaaW.PrintLast Go.Proofs.YtadhbepoblllhaaW.PrintMore Go.Proofs.Ytadhbepoblllhaa.P Go.Proofs.Ytadhbepoblllhaa.T
set_option linter.unusedVariables false
set_option linter.unusedSimpArgs false

def sumLen : List (List Int) → Nat
  | [] => 0
  | x :: l => x.length + sumLen l
theorem sumLen_le (b : Nat) : ∀ l : List (List Int), (∀ x ∈ l, x.length ≤ b) → sumLen l ≤ l.length * b := by
  intro l
  induction l with
  | nil => intro _; simp [sumLen]
  | cons x l ih =>
    intro h
    have h1 := h x List.mem_cons_self
    have h2 := ih (fun y hy => h y (List.mem_cons_of_mem _ hy))
    simp only [sumLen, List.length_cons, Nat.succ_mul]
    omega
def iotaRows : Int → List (List Int) → List (List Int)
  | _, [] => []
  | m, x :: l => iota m x.length :: iotaRows (m + (x.length : Int)) l
theorem iotaRows_length : ∀ (l : List (List Int)) (m : Int), (iotaRows m l).length = l.length := by
  intro l
  induction l with
  | nil => intro m; rfl
  | cons x l ih => intro m; simp [iotaRows, ih]
theorem rdr_mid (pre : List (List Int)) (y : List Int) (suf : List (List Int)) : rd_L1 (pre ++ y :: suf) (pre.length : Int) = y := by simp [rd_L1]
theorem markSS : ∀ (l : List (List Int)) (m : Int), (∀ x ∈ l, x.length ≤ maxLen) → 0 ≤ m → m + (sumLen l : Int) ≤ 9223372036854775807 →
    Ev (fun k => laws_markIntSS.f k l m) (m + (sumLen l : Int), iotaRows m l) := by
  intro l
  induction l with
  | nil => intro m _ _ _; exact ev_const (by simp [laws_markIntSS.f, sumLen, iotaRows])
  | cons x l ih =>
    intro m hr h0 h1
    simp only [sumLen, Int.natCast_add] at h1
    have hx := markInts x m (hr x List.mem_cons_self) h0 (by omega)
    have hl := ih (m + (x.length : Int)) (fun y hy => hr y (List.mem_cons_of_mem _ hy)) (by omega) (by omega)
    unfold laws_markIntSS.f
    refine ev_bind hx (ev_bind hl (ev_const ?_))
    simp only [sumLen, iotaRows, Int.natCast_add, Option.some.injEq, Prod.mk.injEq, and_true]
    omega
theorem markAu (L : Int) (N : List (List Int)) (F : List Int) (hr : ∀ x ∈ N, x.length ≤ maxLen) (hF : F.length ≤ maxLen) (h1 : (sumLen N : Int) + F.length ≤ 9000000000000000000) :
    Ev (fun k => laws_markAutomaton.f k L N F 1) (1 + (sumLen N : Int) + F.length, iotaRows 1 N, iota (1 + (sumLen N : Int)) F.length) := by
  unfold laws_markAutomaton.f
  exact ev_bind (markSS N 1 hr (by omega) (by omega)) (ev_bind (markInts F _ hF (by omega) (by omega)) (ev_const rfl))
theorem markAuM (L : Int) (N : List (List Int)) (F : List Int) (m : Int) (h0 : 0 ≤ m) (hr : ∀ x ∈ N, x.length ≤ maxLen) (hF : F.length ≤ maxLen) (h1 : m + (sumLen N : Int) + F.length ≤ 9000000000000000000) :
    Ev (fun k => laws_markAutomaton.f k L N F m) (m + (sumLen N : Int) + F.length, iotaRows m N, iota (m + (sumLen N : Int)) F.length) := by
  unfold laws_markAutomaton.f
  exact ev_bind (markSS N m hr h0 (by omega)) (ev_bind (markInts F _ hF (by omega) (by omega)) (ev_const rfl))
theorem heldSS_loop : ∀ (suf : List (List Int)) (pre : List (List Int)) (m : Int), (pre ++ iotaRows m suf).length ≤ maxLen → (∀ x ∈ suf, x.length ≤ maxLen) → 0 ≤ m → m + (sumLen suf : Int) ≤ 9223372036854775807 →
    Ev (fun k => laws_heldIntSS.l0 k (pre ++ iotaRows m suf) m (pre.length : Int)) (m + (sumLen suf : Int)) := by
  intro suf
  induction suf with
  | nil =>
    intro pre m hm _ _ _
    exact Ev.step (fun k => laws_heldIntSS.l0.eq_2 ..) (ev_neg (not_lt_end _) (ev_const (by simp [sumLen])))
  | cons y suf ih =>
    intro pre m hm hr h0 h1
    simp only [sumLen, Int.natCast_add] at h1
    simp only [iotaRows] at hm ⊢
    refine Ev.step (fun k => laws_heldIntSS.l0.eq_2 ..) (ev_pos (lt_mid _ _ _) (ev_pos (by omega) ?_))
    rw [rdr_mid]
    refine ev_bind (heldInts y.length m (hr y List.mem_cons_self) h0 (by omega)) (ev_neg (by omega) ?_)
    rw [next_mid _ _ _ hm, assoc_mid]
    have := ih (pre ++ [iota m y.length]) (m + (y.length : Int)) (by rw [← assoc_mid]; exact hm) (fun x hx => hr x (List.mem_cons_of_mem _ hx)) (by omega) (by omega)
    rw [show m + (sumLen (y :: suf) : Int) = m + (y.length : Int) + (sumLen suf : Int) by simp only [sumLen, Int.natCast_add]; omega]
    exact this
theorem heldSS (l : List (List Int)) (m : Int) (hm : l.length ≤ maxLen) (hr : ∀ x ∈ l, x.length ≤ maxLen) (h0 : 0 ≤ m) (h1 : m + (sumLen l : Int) ≤ 9223372036854775807) :
    Ev (fun k => laws_heldIntSS.f k (iotaRows m l) m) (m + (sumLen l : Int)) := by
  unfold laws_heldIntSS.f
  exact heldSS_loop l [] m (by rw [List.nil_append, iotaRows_length]; exact hm) hr h0 h1
end Go.Proofs.Ytadhbepoblllhaa.A
end

section
/- FnExactEqualStates: the program's EqualStates (whose result is a list of pairs) returns what the reference's returns, for all automata that are not greater than 2^20 numbers (as the law's own guard says). -/
namespace Go.Proofs.Ytadhbepoblllhaa.A
open Go.RowKit Go.Proofs.YtadhbepoblllhaaW.PrintWords Go.Proofs.YtadhbepoblllhaaW.PrintLast Go.Proofs.YtadhbepoblllhaaW.PrintMore Go.Proofs.Ytadhbepoblllhaa.P Go.Proofs.Ytadhbepoblllhaa.T
set_option linter.unusedVariables false
theorem equal_l1 {L : Int} {N : List (List Int)} {F : List Int} (h : AuOk L N F) (hF : F.length ≤ maxLen) (i : Nat) (hi : i < N.length) (R : List (List Int) × Bool) : ∀ (d m : Nat) (X : List (List Int)), m + d = N.length → X.length + d ≤ 1000 →
    Ev (fun k => spec_EqualStates.l0 k (X ++ eqRow N F i d m) (N.length : Int) (wrap64 ((i : Int) + 1)) L N F) R → Ev (fun k => spec_EqualStates.l1 k X (i : Int) (m : Int) (N.length : Int) (i : Int) L N F) R := by
  intro d
  induction d with
  | zero =>
    intro m X hm _ hR
    rw [eqRow, List.append_nil] at hR
    exact Ev.step (fun k => spec_EqualStates.l1.eq_2 ..) (ev_neg (by omega) hR)
  | succ d ih =>
    intro m X hm hX hR
    have h12 := h.2.1
    refine Ev.step (fun k => spec_EqualStates.l1.eq_2 ..) (ev_pos (by omega) (ev_bind (eqWordE (kind := 3) (F := F) (G := F) (TwoOk.of h h) (show VP N N ((i : Int), (m : Int)) from ⟨⟨by simp, by simp; omega⟩, ⟨by simp, by simp; omega⟩⟩) hF hF) ?_))
    rw [eqRow] at hR
    rw [show wrap64 ((m : Int) + 1) = ((m + 1 : Nat) : Int) by rw [wrap_id (by omega) (by omega)]; omega]
    by_cases c : (wordOf 3 N F N F (i : Int) (m : Int)).2 = true
    · refine ev_pos c (ih (m + 1) X (by omega) (by omega) ?_)
      rw [if_pos c, List.nil_append] at hR
      exact hR
    · refine ev_neg c (ev_pos (by omega) (ih (m + 1) _ (by omega) (by simp; omega) ?_))
      rw [if_neg c] at hR
      rw [List.append_assoc]
      exact hR
theorem equal_l0 {L : Int} {N : List (List Int)} {F : List Int} (h : AuOk L N F) (hF : F.length ≤ maxLen) : ∀ (d i : Nat) (X : List (List Int)), i + d = N.length → X.length ≤ i * 12 →
    Ev (fun k => spec_EqualStates.l0 k X (N.length : Int) (i : Int) L N F) (X ++ eqRows N F d i, true) := by
  intro d
  induction d with
  | zero =>
    intro i X hi hX
    rw [eqRows, List.append_nil]
    exact Ev.step (fun k => spec_EqualStates.l0.eq_2 ..) (ev_neg (by omega) (ev_const rfl))
  | succ d ih =>
    intro i X hi hX
    have h12 := h.2.1
    have hw : wrap64 ((i : Int) + 1) = ((i + 1 : Nat) : Int) := by rw [wrap_id (by omega) (by omega)]; omega
    refine Ev.step (fun k => spec_EqualStates.l0.eq_2 ..) (ev_pos (by omega) ?_)
    have hl := (eqRow_len N F i (N.length - (i + 1)) (i + 1)).1
    have := equal_l1 h hF i (by omega) (X ++ eqRows N F (d + 1) i, true) (N.length - (i + 1)) (i + 1) X (by omega) (by omega) (by
      rw [hw, eqRows, ← List.append_assoc]
      exact ih (i + 1) _ (by omega) (by rw [List.length_append, Nat.succ_mul]; omega))
    rw [hw]
    exact this
theorem specEqualStates (L : Int) (N : List (List Int)) (F : List Int) (h : AuSm N F) : Ev (fun k => spec_EqualStates.f k L N F) (resEqual L N F) := by
  unfold spec_EqualStates.f resEqual
  refine ev_bind (auGood L N F h.max.1 h.max.2.1 h.max.2.2) ?_
  by_cases hA : AuOk L N F
  · rw [if_pos hA]
    refine ev_pos (by simpa using hA) ?_
    have := equal_l0 hA h.max.2.2 N.length 0 [] (by omega) (by simp)
    simpa using this
  · rw [if_neg hA]
    exact ev_neg (by simpa using hA) (ev_const rfl)
theorem implEqualStates (L : Int) (N : List (List Int)) (F : List Int) (h : AuSm N F) : Ev (fun k => impl_EqualStates.f k L N F) (resEqual L N F) := by
  unfold impl_EqualStates.f
  exact ev_const (if_pos h)
theorem resEqual_len (L : Int) (N : List (List Int)) (F : List Int) : (resEqual L N F).1.length ≤ 1000 ∧ ∀ x ∈ (resEqual L N F).1, x.length ≤ 1000 := by
  unfold resEqual
  by_cases h : AuOk L N F
  · rw [if_pos h]
    obtain ⟨h1, h2⟩ := eqRows_len N F N.length 0
    have h3 : N.length ≤ 12 := by have := h.2.1; omega
    have h4 : N.length * N.length ≤ 12 * 12 := Nat.mul_le_mul h3 h3
    exact ⟨by simp only; omega, fun x hx => by have := h2 x hx; omega⟩
  · rw [if_neg h]; simp
theorem lawFnExactEqualStates (L : Int) (A1 : Option Addr) (c1 : Nat) (N : List (List Int)) (A2 : Option Addr) (c2 : Nat) (F : List Int) (w : World) (h1 : Kd.C (Kd.slice 3 (Kd.int .i64)) w A1 N.length N) (hc1 : N.length ≤ c1) (h2 : Kd.C (Kd.int .i64) w A2 F.length F) (hc2 : F.length ≤ c2)
    (hN : N.length ≤ maxLen) (hr : ∀ x ∈ N, x.length ≤ maxLen) (hF : F.length ≤ maxLen) :
    Calls Try.prog 7 #[.agg #[.int .i64 L, .slice A1 N.length c1, .slice A2 F.length c2]] w fun e w' => e = .returned (.bool true) ∧ Below w.heap.size w w' := by
  obtain ⟨s, ⟨K0, e0⟩, hsm⟩ := szAu L N F hN hr hF
  by_cases hs : s < 0
  · exact FnExactEqualStates_small0 K0 L A1 c1 N A2 c2 F s w h1 hc1 h2 hc2 (e0 K0 (Nat.le_refl _)) hs
  obtain ⟨_, g1, g2, g3⟩ := hsm (by omega)
  have hb : sumLen N ≤ 1048576 * 1048576 := Nat.le_trans (sumLen_le 1048576 N g2) (Nat.mul_le_mul_right _ g1)
  obtain ⟨K1, e1⟩ := toAu L N F g1 g2 g3
  obtain ⟨K2, e2⟩ := specEqualStates L N F ⟨g1, g2, g3⟩
  obtain ⟨K3, e3⟩ := implEqualStates L N F ⟨g1, g2, g3⟩
  have q1 := resEqual_len L N F
  obtain ⟨⟨t0, t1⟩, ht⟩ : ∃ t, t = resEqual L N F := ⟨_, rfl⟩
  rw [← ht] at e2 e3 q1
  simp only at q1
  obtain ⟨q1, q2⟩ := q1
  have q3 : ∀ x ∈ t0, x.length ≤ maxLen := fun x hx => by have := q2 x hx; simp only [maxLen]; omega
  have q4 := sumLen_le 1000 t0 q2
  have q5 : sumLen t0 ≤ 1000 * 1000 := Nat.le_trans q4 (Nat.mul_le_mul_right _ q1)
  obtain ⟨K4, e4⟩ := eqSS t0 (by simp only [maxLen]; omega) q3
  obtain ⟨K5, e5⟩ := eqAu L N F hN hr hF
  obtain ⟨K6, e6⟩ := markAu L N F hr hF (by omega)
  obtain ⟨K7, e7⟩ := markSS t0 1 q3 (by omega) (by omega)
  obtain ⟨K8, e8⟩ := heldSS t0 1 (by simp only [maxLen]; omega) q3 (by omega) (by omega)
  exact FnExactEqualStates_walk (K0 + K1 + K2 + K3 + K4 + K5 + K6 + K7 + K8) L A1 c1 N A2 c2 F s t0 t1 t0 _ _ _ _ _ w h1 hc1 h2 hc2 (e0 _ (by omega)) (by omega) (e1 _ (by omega)) (e2 _ (by omega)) (e3 _ (by omega)) (e4 _ (by omega)) (e5 _ (by omega)) (e6 _ (by omega)) (by omega) (e7 _ (by omega)) (by omega) (e8 _ (by omega))
end Go.Proofs.Ytadhbepoblllhaa.A
end

section
/- Opens an argument that a row reads as data into the cells and lists that a contract speaks of: whole numbers, slices, structs of two and three fields. -/
namespace Go.Proofs.Ytadhbepoblllhaa.Op
open Go.ChangeShapes Go.WideShapes Go.Deep Go.RowKit Go.Proofs.YtadhbepoblllhaaW.PrintWords
set_option linter.unusedVariables false

/-- What reads as data of type t is of kind d, and meets wf. -/
def Opens (P : Program) (t : TypeId) {α : Type} (d : Kd α) (wf : α → Prop) : Prop :=
  ∀ {H : Type} {enc : TypeId × Value → H} {w : World} {base : Nat} {spare : Nat → Bool} {held : Bool} {fuel : Nat} {cs : List Value} {x : DataW H × List MemPlace},
    DataW.trod enc P w base spare held fuel t cs = some x → ∃ a, d.K w a cs ∧ wf a

def WNum (k : IntKind) (n : Int) : Prop := (Lit.int k n).wf = true
abbrev WInt : Int → Prop := WNum .i64
def WList {α : Type} (wf : α → Prop) (l : List α) : Prop := l.length ≤ maxLen ∧ ∀ a ∈ l, wf a

theorem opens_int {P : Program} {t : TypeId} {k : IntKind} (h : P.underlying t = some (.int k)) : Opens P t (Kd.int k) (WNum k) := by
  intro H enc w base spare held fuel cs x ht
  obtain ⟨n, rfl, _, hw⟩ := DataW.trod_int h ht
  exact ⟨n, rfl, hw⟩

theorem opens_slice {P : Program} {t e : TypeId} {α : Type} {d : Kd α} {wf : α → Prop} (q : Nat) (h : P.underlying t = some (.slice e)) (hc : P.cellsOf e = d.sz) (o : Opens P e d wf) :
    Opens P t (Kd.slice q d) (WList wf) := by
  intro H enc w base spare held fuel cs x ht
  rcases open_slice h ht with ⟨rfl, _⟩ | ⟨a, len, cap, m, n, D, Pl, rfl, hb, hl, hm, hmm, hx, hi⟩
  · exact ⟨[], ⟨none, 0, rfl, Nat.le_refl _, rfl, by simp, fun hn => by simp at hn⟩, by simp [WList]⟩
  · have hlm : len ≤ m := by rw [hmm]; split <;> omega
    have each : ∀ i, i < len → ∃ y cs', w.cells? base (a.add (i * d.sz)) d.sz = some cs' ∧ d.K w y cs' ∧ wf y := by
      intro i hil
      obtain ⟨cs', h1, h2⟩ := hi i (by omega)
      obtain ⟨y, hk, hw⟩ := o h2
      rw [hc] at h1
      exact ⟨y, cs', h1, hk, hw⟩
    have build : ∀ k, k ≤ len → ∃ ys : List α, ys.length = k ∧ (∀ y ∈ ys, wf y) ∧ ∀ j y, ys[j]? = some y → ∃ c, c.length = d.sz ∧ d.K w y c ∧ ∀ i u, c[i]? = some u → w.cell? (a.add (j * d.sz + i)) = some u := by
      intro k
      induction k with
      | zero => exact fun _ => ⟨[], rfl, by simp, by simp⟩
      | succ k ih =>
        intro hk
        obtain ⟨ys, hlen, hwf, hys⟩ := ih (by omega)
        obtain ⟨y, cs', h1, h2, h3⟩ := each k (by omega)
        obtain ⟨_, hcl, hat⟩ := World.cells?_some h1
        refine ⟨ys ++ [y], by simp [hlen], ?_, ?_⟩
        · intro z hz
          rcases List.mem_append.1 hz with hz | hz
          · exact hwf z hz
          · rw [List.mem_singleton.1 hz]; exact h3
        · intro j z hj
          by_cases hjk : j < k
          · rw [List.getElem?_append_left (by omega)] at hj
            exact hys j z hj
          · have hjl : j < (ys ++ [y]).length := (List.getElem?_eq_some_iff.1 hj).1
            simp only [List.length_append, List.length_singleton, hlen] at hjl
            obtain rfl : j = k := by omega
            rw [List.getElem?_append_right (by omega), hlen, Nat.sub_self] at hj
            obtain rfl : y = z := by simpa using hj
            refine ⟨cs', hcl, h2, fun i u hu => ?_⟩
            have hil : i < d.sz := by
              have := (List.getElem?_eq_some_iff.1 hu).1
              omega
            have := hat i hil
            rw [Go.Deep.add_add] at this
            rw [this, hu]
    obtain ⟨ys, hlen, hwf, hys⟩ := build len (Nat.le_refl _)
    have hmx : len ≤ maxLen := by omega
    exact ⟨ys, ⟨some a, cap, by rw [hlen], by rw [hlen]; exact hl, rfl, by rw [hlen]; exact hmx, fun _ => ⟨a, rfl, hys⟩⟩, by rw [hlen]; exact hmx, hwf⟩

theorem opens_iso {P : Program} {t : TypeId} {α β : Type} {d : Kd α} {wf : α → Prop} (f : β → α) (g : α → β) (hg : ∀ a, f (g a) = a) (o : Opens P t d wf) : Opens P t (Kd.iso d f) (fun b => wf (f b)) := by
  intro H enc w base spare held fuel cs x ht
  obtain ⟨a, h1, h2⟩ := o ht
  exact ⟨g a, by show d.K w (f (g a)) cs; rw [hg]; exact h1, by show wf (f (g a)); rw [hg]; exact h2⟩

theorem opens_two {P : Program} {t : TypeId} {f0 f1 : Field} {α β : Type} {a : Kd α} {b : Kd β} {wa : α → Prop} {wb : β → Prop}
    (h : P.underlying t = some (.struct #[f0, f1])) (hc : P.cellsOf t = a.sz + b.sz) (o0 : f0.offset = 0) (o1 : f1.offset = a.sz) (c0 : P.cellsOf f0.type = a.sz) (c1 : P.cellsOf f1.type = b.sz)
    (oa : Opens P f0.type a wa) (ob : Opens P f1.type b wb) : Opens P t (Kd.pair a b) (fun x => wa x.1 ∧ wb x.2) := by
  intro H enc w base spare held fuel cs x ht
  obtain ⟨xs, n, _, _, hlen, hxl, hf⟩ := DataW.trod_struct h ht
  have hx2 : xs.length = 2 := hxl
  have h0 := hf 0 f0 rfl
  have h1 := hf 1 f1 rfl
  rw [List.getElem?_eq_getElem (by omega)] at h0 h1
  obtain ⟨y0, k0, w0⟩ := oa h0
  obtain ⟨y1, k1, w1⟩ := ob h1
  refine ⟨(y0, y1), ⟨_, _, ?_, k0, k1⟩, w0, w1⟩
  rw [hc] at hlen
  rw [o0, o1, c0, c1, List.drop_zero]
  rw [List.take_of_length_le (l := cs.drop a.sz) (by simp; omega), List.take_append_drop]

theorem opens_three {P : Program} {t : TypeId} {f0 f1 f2 : Field} {α β γ : Type} {a : Kd α} {b : Kd β} {c : Kd γ} {wa : α → Prop} {wb : β → Prop} {wc : γ → Prop}
    (h : P.underlying t = some (.struct #[f0, f1, f2])) (hc : P.cellsOf t = a.sz + (b.sz + c.sz)) (o0 : f0.offset = 0) (o1 : f1.offset = a.sz) (o2 : f2.offset = a.sz + b.sz) (c0 : P.cellsOf f0.type = a.sz) (c1 : P.cellsOf f1.type = b.sz) (c2 : P.cellsOf f2.type = c.sz)
    (oa : Opens P f0.type a wa) (ob : Opens P f1.type b wb) (oc : Opens P f2.type c wc) : Opens P t (Kd.pair a (Kd.pair b c)) (fun x => wa x.1 ∧ wb x.2.1 ∧ wc x.2.2) := by
  intro H enc w base spare held fuel cs x ht
  obtain ⟨xs, n, _, _, hlen, hxl, hf⟩ := DataW.trod_struct h ht
  have hx2 : xs.length = 3 := hxl
  have h0 := hf 0 f0 rfl
  have h1 := hf 1 f1 rfl
  have h2 := hf 2 f2 rfl
  rw [List.getElem?_eq_getElem (by omega)] at h0 h1 h2
  obtain ⟨y0, k0, w0⟩ := oa h0
  obtain ⟨y1, k1, w1⟩ := ob h1
  obtain ⟨y2, k2, w2⟩ := oc h2
  rw [hc] at hlen
  refine ⟨(y0, y1, y2), ⟨_, cs.drop a.sz, ?_, k0, ⟨_, _, ?_, k1, k2⟩⟩, w0, w1, w2⟩
  · rw [o0, c0, List.drop_zero, List.take_append_drop]
  · rw [o1, o2, c1, c2]
    rw [List.take_of_length_le (l := cs.drop (a.sz + b.sz)) (by simp; omega), ← List.drop_drop, List.take_append_drop]

/-- A slice among the arguments. -/
theorem open_arg_slice {P : Program} {t : TypeId} {α : Type} {d : Kd α} {wf : α → Prop} {q : Nat} (o : Opens P t (Kd.slice q d) (WList wf)) {H : Type} {enc : TypeId × Value → H} {w : World} {base : Nat} {spare : Nat → Bool} {held : Bool}
    {A : Option Addr} {len cap : Nat} {D : DataW H} {ps : List MemPlace} (h : DataW.Trod enc P w base spare held t (.slice A len cap) D ps) :
    ∃ l : List α, len = l.length ∧ l.length ≤ cap ∧ d.C w A l.length l ∧ WList wf l := by
  obtain ⟨fuel, hf⟩ := h
  obtain ⟨l, ⟨A', c, he, hl, hC⟩, hw⟩ := o hf
  simp only [Value.cells, List.cons.injEq, Value.slice.injEq, and_true] at he
  obtain ⟨rfl, rfl, rfl⟩ := he
  exact ⟨l, rfl, hl, hC, hw⟩
end Go.Proofs.Ytadhbepoblllhaa.Op
end

section
/- FnExactEqualStates: the program and the reference agree for all arguments: the row over the pure statement. -/
namespace Go.Proofs.Ytadhbepoblllhaa.fnExactEqualStates
open Go.ChangeShapes Go.WideShapes Go.ChangeAt Go.RowKit
open Go.ChangeMaps (open_string shut_string)
open Go.Proofs.Ytadhbepoblllhaa.Op
set_option linter.unusedVariables false
theorem own : ownKnob Try.prog.godebug = none := by kernel_rfl
theorem laidOut : laidOutB Try.prog = true := by kernel_rfl
theorem ty3 : Opens Try.prog 3 (Go.Proofs.YtadhbepoblllhaaW.PrintWords.Kd.int .i64) (WNum .i64) := opens_int Try.underlying3
theorem ty23 : Opens Try.prog 23 (Go.Proofs.YtadhbepoblllhaaW.PrintWords.Kd.slice 3 (Go.Proofs.YtadhbepoblllhaaW.PrintWords.Kd.int .i64)) (WList (WNum .i64)) := opens_slice 3 Try.underlying23 (by kernel_rfl) ty3
theorem ty22 : Opens Try.prog 22 (Go.Proofs.YtadhbepoblllhaaW.PrintWords.Kd.slice 23 (Go.Proofs.YtadhbepoblllhaaW.PrintWords.Kd.slice 3 (Go.Proofs.YtadhbepoblllhaaW.PrintWords.Kd.int .i64))) (WList (WList (WNum .i64))) := opens_slice 23 Try.underlying22 (by kernel_rfl) ty23
theorem tw25 : Opens Try.prog 25 (Go.Proofs.YtadhbepoblllhaaW.PrintWords.Kd.pair (Go.Proofs.YtadhbepoblllhaaW.PrintWords.Kd.int .i64) (Go.Proofs.YtadhbepoblllhaaW.PrintWords.Kd.pair (Go.Proofs.YtadhbepoblllhaaW.PrintWords.Kd.slice 23 (Go.Proofs.YtadhbepoblllhaaW.PrintWords.Kd.slice 3 (Go.Proofs.YtadhbepoblllhaaW.PrintWords.Kd.int .i64))) (Go.Proofs.YtadhbepoblllhaaW.PrintWords.Kd.slice 3 (Go.Proofs.YtadhbepoblllhaaW.PrintWords.Kd.int .i64)))) (fun x : Int × (List (List Int)) × (List Int) => (WNum .i64) x.1 ∧ (WList (WList (WNum .i64))) x.2.1 ∧ (WList (WNum .i64)) x.2.2) := opens_three Try.underlying25 (by kernel_rfl) (by kernel_rfl) (by kernel_rfl) (by kernel_rfl) (by kernel_rfl) (by kernel_rfl) (by kernel_rfl) ty3 ty22 ty23
set_option maxRecDepth 100000 in
theorem lifted (os : Os) (started : os.Started) (H : Type) (enc : TypeId × Value → H) :
    ReturnsInHanded {} Try.checked os 7 .any (Rows.fnExactEqualStatesSpec.pre6 enc Try.prog Try.f7 Rows.fnExactEqualStatesRow.domain false) (Rows.fnExactEqualStatesSpec.post enc Try.prog Try.f7 false true false false) := by
  refine returnsInHanded_of_change_sized (C := Try.checked) own started (by kernel_rfl) Try.func7
    (ChangeSpec.witness6 (enc := enc) (C := Try.checked) false ⟨#[], #[.agg #[.int .i64 0, .slice none 0 0, .slice none 0 0]], []⟩ 8 (by kernel_rfl) (by kernel_rfl) (by kernel_rfl) (by kernel_rfl)) ?_
  intro W base args ds gs before hval0 hW hcnd hsz0 _
  have hsz : (DataW.weightsEach Try.prog (Try.f7.params.toList ++ Rows.fnExactEqualStatesSpec.plain.varTypes Try.prog) (ds ++ gs)).all (· ≤ reachBytes) = true := hsz0
  have hval : ∀ (j : Nat) t v, Try.f7.params[j]? = some t → args[j]? = some v → Value.okWide Try.prog W .any base t v := hval0
  have hW' := hW
  obtain ⟨p, q, hA0, hV, rfl, hfz, hnd⟩ := hW
  have hA : DataW.TrodAll enc Try.prog W 0 (fun _ => true) true Try.f7.params.toList args.toList ds p := hA0
  rw [Try.params7] at hA hval hsz
  obtain ⟨v0, vs0, d0, ds0, p0, q0, hargs, rfl, rfl, h0, r0⟩ := trodAll_cons hA
  obtain ⟨rfl, rfl, rfl⟩ := trodAll_nil r0
  obtain rfl : args = #[v0] := by cases args; simp_all
  obtain ⟨rfl, rfl⟩ := trodVars_none hV
  have k0 := h0
  have lt0 : ∀ x ∈ p0, x.block < W.heap.size := by obtain ⟨m, hm⟩ := k0; exact DataW.trod_lt m _ _ _ hm
  obtain ⟨cs0, rfl, _⟩ := okWide_struct Try.underlying25 (hval 0 25 v0 rfl rfl)
  obtain ⟨csl0⟩ := cs0
  obtain ⟨fu0, hf0⟩ := h0
  obtain ⟨⟨a0_0, l0_1, l0_2⟩, ⟨x0_0, xr0, ex0, e0_0, ⟨x0_1, x0_2, er0, ⟨A0_1, c0_1, e0_1, hc0_1, hC0_1⟩, ⟨A0_2, c0_2, e0_2, hc0_2, hC0_2⟩⟩⟩, ⟨w0_0, w0_1, w0_2⟩⟩ := tw25 hf0
  replace e0_0 : x0_0 = [Value.int .i64 a0_0] := e0_0
  replace e0_1 : x0_1 = [Value.slice A0_1 l0_1.length c0_1] := e0_1
  replace hc0_1 : l0_1.length ≤ c0_1 := hc0_1
  replace hC0_1 : Go.Proofs.YtadhbepoblllhaaW.PrintWords.Kd.C (Go.Proofs.YtadhbepoblllhaaW.PrintWords.Kd.slice 3 (Go.Proofs.YtadhbepoblllhaaW.PrintWords.Kd.int .i64)) W A0_1 l0_1.length l0_1 := hC0_1
  replace e0_2 : x0_2 = [Value.slice A0_2 l0_2.length c0_2] := e0_2
  replace hc0_2 : l0_2.length ≤ c0_2 := hc0_2
  replace hC0_2 : Go.Proofs.YtadhbepoblllhaaW.PrintWords.Kd.C (Go.Proofs.YtadhbepoblllhaaW.PrintWords.Kd.int .i64) W A0_2 l0_2.length l0_2 := hC0_2
  replace w0_0 : (WNum .i64) a0_0 := w0_0
  replace w0_1 : (WList (WList (WNum .i64))) l0_1 := w0_1
  replace w0_2 : (WList (WNum .i64)) l0_2 := w0_2
  subst e0_1 e0_2 er0 e0_0 ex0
  clear hA0 hval0 hsz0 hsz
  refine (A.lawFnExactEqualStates a0_0 A0_1 c0_1 l0_1 A0_2 c0_2 l0_2  W hC0_1 hc0_1 hC0_2 hc0_2 w0_1.1 (fun x hx => (w0_1.2 x hx).1) w0_2.1).mono fun e W' ⟨he, bel⟩ => ?_
  subst he
  exact ⟨_, rfl, _, _, _, [], _, [], hW', trodAll_mk1 (shut_bool Try.underlying4 _), (trodAll_cons_mk (Below.trod laidOut (by kernel_rfl) (of_decide_eq_true (by kernel_rfl)) k0 bel lt0) trodAll_mk0), rfl, bel.frame _, fun h => by cases h⟩
theorem over : Rows.fnExactEqualStatesRow.holds Try.pinned (OpenSpec.ofChange Rows.fnExactEqualStatesSpec) :=
  OpenClaim.holds_of_wide 7 Try.f7 rfl rfl rfl rfl rfl rfl rfl ⟨rfl, rfl, rfl, rfl, rfl⟩ rfl rfl rfl rfl rfl (by kernel_rfl) Try.func7 (by kernel_rfl)
    (of_decide_eq_true (by kernel_rfl)) (by unfold Func.isWrapper; first | (rw [if_pos (by decide +kernel)]; kernel_rfl) | (rw [if_neg (by decide +kernel)]; exact ⟨rfl, rfl⟩))
    (fun os started H enc _ => lifted os started H enc)
end Go.Proofs.Ytadhbepoblllhaa.fnExactEqualStates
namespace Go.Proofs.Ytadhbepoblllhaa
/-- The row. -/
theorem fnExactEqualStates_holds : Rows.FnExactEqualStatesSaid := fnExactEqualStates.over
end Go.Proofs.Ytadhbepoblllhaa
end
