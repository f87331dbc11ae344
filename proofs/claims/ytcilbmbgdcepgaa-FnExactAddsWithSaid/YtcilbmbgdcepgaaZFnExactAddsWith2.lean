/- FnExactAddsWith: texts of this claim in one: WalkFnExactAddsWith, ABaseE, LawAddsWith, Op, RowFnExactAddsWith. -/
import Derived.Test.YtcilbmbgdcepgaaYFnExactAddsWithPx100
import Derived.Test.YtcilbmbgdcepgaaYFnExactAddsWithPx101
import Derived.Test.YtcilbmbgdcepgaaZFnExactAddsWith1
import Derived.Test.YtcilbmbgdcepgaaYFnExactAddsWithPx48
import Derived.Test.YtcilbmbgdcepgaaYFnExactAddsWithPx53
import Derived.Test.YtcilbmbgdcepgaaOwnW
import Derived.Test.YtcilbmbgdcepgaaYFnExactAddsWithABase
import Derived.Test.YtcilbmbgdcepgaaYFnExactAddsWithACar
import Derived.Deep.Slices
import Derived.ChangeSame
import Derived.ChangeArms
import Derived.Test.YtcilbmbgdcepgaaWWords
import Derived.Test.YtcilbmbgdcepgaaRows
import Derived.WalkKit
import Derived.ProofKit
import Derived.OpenShut
import Derived.ShutString
import Derived.ChangeOld
import Derived.Below
import Derived.SizedLaws
section
/- The walk of FnExactAddsWith along the one way on which all its tests succeed, and the short ones where an argument is too great. -/
namespace Go.Proofs.Ytcilbmbgdcepgaa.P
open Go.RowKit YtcilbmbgdcepgaaW.PrintWords YtcilbmbgdcepgaaW.PrintLast YtcilbmbgdcepgaaW.PrintMore Go.Proofs.Ytcilbmbgdcepgaa
set_option linter.unusedVariables false
set_option linter.unusedSimpArgs false
set_option maxHeartbeats 4000000 in
set_option maxRecDepth 100000 in
theorem FnExactAddsWith_small0 (k : Nat) (a0_0 : Int) (a0_1 : Int) (A0_2 : Option Addr) (c0_2 : Nat) (l0_2 : List S96) (a1 : Int) (A2 : Option Addr) (c2 : Nat) (l2 : List (Int)) (w : World)
  (hr0_2 : Kd.C k96 w A0_2 l0_2.length l0_2) (hc0_2 : l0_2.length ≤ c0_2)
  (hr2 : Kd.C (Kd.int .i64) w A2 l2.length l2) (hc2 : l2.length ≤ c2)
  (hs_aBits : (l2.length : Int) > 1048576) :
  Calls Try.prog 11 #[.agg #[.int .i64 a0_0, .int .i64 a0_1, .slice A0_2 l0_2.length c0_2], .int .i64 a1, .slice A2 l2.length c2] w fun e w' => e = .returned (.bool true) ∧ Below w.heap.size w w' := by
 have hu32 := Try.underlying32
 have hu24 := Try.underlying24
 have hsb9_aBits : decide (1048576 < l2.length) = true := decide_eq_true (by omega)
 have hsb17_aBits : decide (1048576 < (l2.length : Int)) = true := decide_eq_true (by omega)
 have HR0_2 := Aside0.mk hr0_2
 clear hr0_2
 have HC0_2 := Aside0.mk hc0_2
 clear hc0_2
 have HR2 := Aside0.mk hr2
 clear hr2
 have HC2 := Aside0.mk hc2
 clear hc2
 have HB := Aside0.mk (Below.refl w.heap.size w)
 go_enter Try.func11, Try.ntmps11
 go_wp2_with fail
 go_ret
 exact ⟨rfl, below_step HB.out Own.bel⟩
set_option maxHeartbeats 4000000 in
set_option maxRecDepth 100000 in
theorem FnExactAddsWith_small1 (k : Nat) (a0_0 : Int) (a0_1 : Int) (A0_2 : Option Addr) (c0_2 : Nat) (l0_2 : List S96) (a1 : Int) (A2 : Option Addr) (c2 : Nat) (l2 : List (Int)) (z_aB : Int) (w : World)
  (hr0_2 : Kd.C k96 w A0_2 l0_2.length l0_2) (hc0_2 : l0_2.length ≤ c0_2)
  (hr2 : Kd.C (Kd.int .i64) w A2 l2.length l2) (hc2 : l2.length ≤ c2)
  (hs_aBits : (l2.length : Int) ≤ 1048576)
  (e_sz_aB : laws_szBoard.f a0_0 a0_1 l0_2 1048576 = some z_aB)
  (hz_aB : z_aB < 0) :
  Calls Try.prog 11 #[.agg #[.int .i64 a0_0, .int .i64 a0_1, .slice A0_2 l0_2.length c0_2], .int .i64 a1, .slice A2 l2.length c2] w fun e w' => e = .returned (.bool true) ∧ Below w.heap.size w w' := by
 have hu32 := Try.underlying32
 have hu24 := Try.underlying24
 have hzb_aB : decide (z_aB < 0) = true := decide_eq_true (by omega)
 have hsb9_aBits : decide (1048576 < l2.length) = false := decide_eq_false (by omega)
 have hsb17_aBits : decide (1048576 < (l2.length : Int)) = false := decide_eq_false (by omega)
 have HR0_2 := Aside0.mk hr0_2
 clear hr0_2
 have HC0_2 := Aside0.mk hc0_2
 clear hc0_2
 have HR2 := Aside0.mk hr2
 clear hr2
 have HC2 := Aside0.mk hc2
 clear hc2
 have He_sz_aB := Aside0.mk e_sz_aB
 clear e_sz_aB
 have HB := Aside0.mk (Below.refl w.heap.size w)
 go_enter Try.func11, Try.ntmps11
 go_wp2_with fail
 refine (laws_szBoard.calls _ _ _ _ _ _ _ _ (Kd.C_below HR0_2.out (below_step HB.out Own.bel)) HC0_2.out He_sz_aB.out).mono ?_
 rintro e w1 ⟨rfl, hb⟩
 have BK_aB := Aside0.mk (blk_below (g := w.heap.size) (o := .cells #[.int .i64 a0_0, .int .i64 a0_1, .slice A0_2 l0_2.length c0_2] 32 (0, 0)) (by (repeat (first | with_reducible refine blk_drewN ?_ _ | with_reducible refine blk_drew ?_)); exact (blk_new _ _)) hb)
 have HG_BK_aB : Aside0 (w.heap.size < w1.heap.size) := ⟨blk_lt BK_aB.out⟩
 have HW := Aside0.mk (below_step (w := w) Own.bel hb)
 have HZ1 : Aside0 (w.heap.size ≤ w1.heap.size) := ⟨HW.out.size⟩
 replace HB := Aside0.mk (below_step HB.out HW.out)
 clear hb HW
 have czBK_aB_0 : w1.cell? ⟨w.heap.size, 0, none⟩ = some (.int .i64 a0_0) := (blk_cell BK_aB.out 0).trans rfl
 have czBK_aB_1 : w1.cell? ⟨w.heap.size, 1, none⟩ = some (.int .i64 a0_1) := (blk_cell BK_aB.out 1).trans rfl
 have czBK_aB_2 : w1.cell? ⟨w.heap.size, 2, none⟩ = some (.slice A0_2 l0_2.length c0_2) := (blk_cell BK_aB.out 2).trans rfl
 go_wp2_with fail
 go_ret
 exact ⟨rfl, below_step HB.out Own.bel⟩
set_option maxHeartbeats 4000000 in
set_option maxRecDepth 100000 in
theorem FnExactAddsWith_walk (k : Nat) (a0_0 : Int) (a0_1 : Int) (A0_2 : Option Addr) (c0_2 : Nat) (l0_2 : List S96) (a1 : Int) (A2 : Option Addr) (c2 : Nat) (l2 : List (Int)) (z_aB : Int) (ml0_2 : List S71) (r0 : Int) (r1 : Bool) (w : World)
  (hr0_2 : Kd.C k96 w A0_2 l0_2.length l0_2) (hc0_2 : l0_2.length ≤ c0_2)
  (hr2 : Kd.C (Kd.int .i64) w A2 l2.length l2) (hc2 : l2.length ≤ c2)
  (hs_aBits : (l2.length : Int) ≤ 1048576)
  (e_sz_aB : laws_szBoard.f a0_0 a0_1 l0_2 1048576 = some z_aB)
  (hz_aB : 0 ≤ z_aB)
  (e_to_aB : laws_toBoard.f k a0_0 a0_1 l0_2 = some (a0_0, a0_1, ml0_2))
  (e_to_aBits : laws_toIntS.f k l2 = some l2)
  (e_spec : spec_AddsWith.f k a0_0 a0_1 ml0_2 a1 l2 = some (r0, r1))
  (e_impl : impl_AddsWith.f k a0_0 a0_1 ml0_2 a1 l2 = some (r0, r1))
  (e_eq_x0 : laws_eqBoard.f k a0_0 a0_1 ml0_2 a0_0 a0_1 ml0_2 = some true)
  (e_eq_x2 : laws_eqIntS.f k l2 l2 = some true) :
  Calls Try.prog 11 #[.agg #[.int .i64 a0_0, .int .i64 a0_1, .slice A0_2 l0_2.length c0_2], .int .i64 a1, .slice A2 l2.length c2] w fun e w' => e = .returned (.bool true) ∧ Below w.heap.size w w' := by
 have hu32 := Try.underlying32
 have hu24 := Try.underlying24
 have hzb_aB : decide (z_aB < 0) = false := decide_eq_false (by omega)
 have hsb9_aBits : decide (1048576 < l2.length) = false := decide_eq_false (by omega)
 have hsb17_aBits : decide (1048576 < (l2.length : Int)) = false := decide_eq_false (by omega)
 have HR0_2 := Aside0.mk hr0_2
 clear hr0_2
 have HC0_2 := Aside0.mk hc0_2
 clear hc0_2
 have HR2 := Aside0.mk hr2
 clear hr2
 have HC2 := Aside0.mk hc2
 clear hc2
 have He_sz_aB := Aside0.mk e_sz_aB
 clear e_sz_aB
 have He_to_aB := Aside0.mk e_to_aB
 clear e_to_aB
 have He_to_aBits := Aside0.mk e_to_aBits
 clear e_to_aBits
 have He_spec := Aside0.mk e_spec
 clear e_spec
 have He_impl := Aside0.mk e_impl
 clear e_impl
 have He_eq_x0 := Aside0.mk e_eq_x0
 clear e_eq_x0
 have He_eq_x2 := Aside0.mk e_eq_x2
 clear e_eq_x2
 have HB := Aside0.mk (Below.refl w.heap.size w)
 go_enter Try.func11, Try.ntmps11
 go_wp2_with fail
 refine (laws_szBoard.calls _ _ _ _ _ _ _ _ (Kd.C_below HR0_2.out (below_step HB.out Own.bel)) HC0_2.out He_sz_aB.out).mono ?_
 rintro e w1 ⟨rfl, hb⟩
 have BK_aB := Aside0.mk (blk_below (g := w.heap.size) (o := .cells #[.int .i64 a0_0, .int .i64 a0_1, .slice A0_2 l0_2.length c0_2] 32 (0, 0)) (by (repeat (first | with_reducible refine blk_drewN ?_ _ | with_reducible refine blk_drew ?_)); exact (blk_new _ _)) hb)
 have HG_BK_aB : Aside0 (w.heap.size < w1.heap.size) := ⟨blk_lt BK_aB.out⟩
 have HW := Aside0.mk (below_step (w := w) Own.bel hb)
 have HZ1 : Aside0 (w.heap.size ≤ w1.heap.size) := ⟨HW.out.size⟩
 replace HB := Aside0.mk (below_step HB.out HW.out)
 clear hb HW
 have czBK_aB_0 : w1.cell? ⟨w.heap.size, 0, none⟩ = some (.int .i64 a0_0) := (blk_cell BK_aB.out 0).trans rfl
 have czBK_aB_1 : w1.cell? ⟨w.heap.size, 1, none⟩ = some (.int .i64 a0_1) := (blk_cell BK_aB.out 1).trans rfl
 have czBK_aB_2 : w1.cell? ⟨w.heap.size, 2, none⟩ = some (.slice A0_2 l0_2.length c0_2) := (blk_cell BK_aB.out 2).trans rfl
 go_wp2_with fail
 refine (laws_toBoard.calls k _ _ _ _ _ _ _ _ _ (Kd.C_below HR0_2.out (below_step HB.out Own.bel)) HC0_2.out He_to_aB.out).mono ?_
 rintro e w2 ⟨vt14_0, rfl, hf1, hb⟩
 clear czBK_aB_0 czBK_aB_1 czBK_aB_2
 have HN := Aside0.mk HB.out.size
 have HW := Aside0.mk (below_step (w := w1) Own.bel hb)
 have HZ2 : Aside0 (w1.heap.size ≤ w2.heap.size) := ⟨HW.out.size⟩
 replace HB := Aside0.mk (below_step HB.out HW.out)
 replace BK_aB := Aside0.mk (blk_below BK_aB.out HW.out)
 obtain ⟨lo1_, F1, HLO1⟩ := Own.R_iv (wN := w1) rfl hf1 HN.out Own.bel hb
 obtain ⟨A1_, c1_, e1_⟩ := Kd.R_slice F1.out
 subst e1_
 clear hb HW HN hf1
 have czBK_aB_0 : w2.cell? ⟨w.heap.size, 0, none⟩ = some (.int .i64 a0_0) := (blk_cell BK_aB.out 0).trans rfl
 have czBK_aB_1 : w2.cell? ⟨w.heap.size, 1, none⟩ = some (.int .i64 a0_1) := (blk_cell BK_aB.out 1).trans rfl
 have czBK_aB_2 : w2.cell? ⟨w.heap.size, 2, none⟩ = some (.slice A0_2 l0_2.length c0_2) := (blk_cell BK_aB.out 2).trans rfl
 go_wp2_with fail
 refine (laws_toIntS.calls k _ _ _ _ _ (Kd.C_below HR2.out (below_step HB.out Own.bel)) HC2.out He_to_aBits.out).mono ?_
 rintro e w3 ⟨vt30_0, rfl, hf2, hb⟩
 clear czBK_aB_0 czBK_aB_1 czBK_aB_2
 have HN := Aside0.mk HB.out.size
 have HW := Aside0.mk (below_step (w := w2) Own.bel hb)
 have HZ3 : Aside0 (w2.heap.size ≤ w3.heap.size) := ⟨HW.out.size⟩
 replace HB := Aside0.mk (below_step HB.out HW.out)
 replace F1 := Aside0.mk (Kd.R_below F1.out HW.out)
 replace BK_aB := Aside0.mk (blk_below BK_aB.out HW.out)
 obtain ⟨lo2_, F2, HLO2⟩ := Own.R_iv (wN := w2) rfl hf2 HN.out Own.bel hb
 obtain ⟨A2_, c2_, e2_⟩ := Kd.R_slice F2.out
 subst e2_
 clear hb HW HN hf2
 have czBK_aB_0 : w3.cell? ⟨w.heap.size, 0, none⟩ = some (.int .i64 a0_0) := (blk_cell BK_aB.out 0).trans rfl
 have czBK_aB_1 : w3.cell? ⟨w.heap.size, 1, none⟩ = some (.int .i64 a0_1) := (blk_cell BK_aB.out 1).trans rfl
 have czBK_aB_2 : w3.cell? ⟨w.heap.size, 2, none⟩ = some (.slice A0_2 l0_2.length c0_2) := (blk_cell BK_aB.out 2).trans rfl
 go_wp2_with fail
 refine (spec_AddsWith.calls k _ _ _ _ _ _ _ _ _ _ _ _ (Kd.C_below (Kd.R_reads' F1.out).2.2 Own.bel) (Kd.R_reads' F1.out).2.1 (Kd.C_below (Kd.R_reads' F2.out).2.2 Own.bel) (Kd.R_reads' F2.out).2.1 He_spec.out).mono ?_
 rintro e w4 ⟨rfl, hb⟩
 clear czBK_aB_0 czBK_aB_1 czBK_aB_2
 have HN := Aside0.mk HB.out.size
 have HW := Aside0.mk (below_step (w := w3) Own.bel hb)
 have HZ4 : Aside0 (w3.heap.size ≤ w4.heap.size) := ⟨HW.out.size⟩
 replace HB := Aside0.mk (below_step HB.out HW.out)
 replace F1 := Aside0.mk (Kd.R_below F1.out HW.out)
 replace F2 := Aside0.mk (Kd.R_below F2.out HW.out)
 replace BK_aB := Aside0.mk (blk_below BK_aB.out HW.out)
 clear hb HW HN 
 have czBK_aB_0 : w4.cell? ⟨w.heap.size, 0, none⟩ = some (.int .i64 a0_0) := (blk_cell BK_aB.out 0).trans rfl
 have czBK_aB_1 : w4.cell? ⟨w.heap.size, 1, none⟩ = some (.int .i64 a0_1) := (blk_cell BK_aB.out 1).trans rfl
 have czBK_aB_2 : w4.cell? ⟨w.heap.size, 2, none⟩ = some (.slice A0_2 l0_2.length c0_2) := (blk_cell BK_aB.out 2).trans rfl
 go_wp2_with fail
 refine (laws_toBoard.calls k _ _ _ _ _ _ _ _ _ (Kd.C_below HR0_2.out (below_step HB.out Own.bel)) HC0_2.out He_to_aB.out).mono ?_
 rintro e w5 ⟨vx0_0, rfl, hf3, hb⟩
 clear czBK_aB_0 czBK_aB_1 czBK_aB_2
 have HN := Aside0.mk HB.out.size
 have HW := Aside0.mk (below_step (w := w4) Own.bel hb)
 have HZ5 : Aside0 (w4.heap.size ≤ w5.heap.size) := ⟨HW.out.size⟩
 replace HB := Aside0.mk (below_step HB.out HW.out)
 replace F1 := Aside0.mk (Kd.R_below F1.out HW.out)
 replace F2 := Aside0.mk (Kd.R_below F2.out HW.out)
 replace BK_aB := Aside0.mk (blk_below BK_aB.out HW.out)
 obtain ⟨lo3_, F3, HLO3⟩ := Own.R_iv (wN := w4) rfl hf3 HN.out Own.bel hb
 obtain ⟨A3_, c3_, e3_⟩ := Kd.R_slice F3.out
 subst e3_
 clear hb HW HN hf3
 have czBK_aB_0 : (w5.alloc (.cells #[.int .i64 a0_0, .int .i64 a0_1, .slice A3_ ml0_2.length c3_] 24)).cell? ⟨w.heap.size, 0, none⟩ = some (.int .i64 a0_0) := (blk_cell (blk_alloc BK_aB.out _) 0).trans rfl
 have czBK_aB_1 : (w5.alloc (.cells #[.int .i64 a0_0, .int .i64 a0_1, .slice A3_ ml0_2.length c3_] 24)).cell? ⟨w.heap.size, 1, none⟩ = some (.int .i64 a0_1) := (blk_cell (blk_alloc BK_aB.out _) 1).trans rfl
 have czBK_aB_2 : (w5.alloc (.cells #[.int .i64 a0_0, .int .i64 a0_1, .slice A3_ ml0_2.length c3_] 24)).cell? ⟨w.heap.size, 2, none⟩ = some (.slice A0_2 l0_2.length c0_2) := (blk_cell (blk_alloc BK_aB.out _) 2).trans rfl
 go_wp2_with fail
 refine (laws_toIntS.calls k _ _ _ _ _ (Kd.C_below HR2.out (below_step HB.out Own.bel)) HC2.out He_to_aBits.out).mono ?_
 rintro e w6 ⟨vx2_0, rfl, hf4, hb⟩
 clear czBK_aB_0 czBK_aB_1 czBK_aB_2
 have HN := Aside0.mk HB.out.size
 have BK_x0 := Aside0.mk (blk_below (g := w5.heap.size) (o := .cells #[.int .i64 a0_0, .int .i64 a0_1, .slice A3_ ml0_2.length c3_] 24 (0, 0)) (by (repeat (first | with_reducible refine blk_drewN ?_ _ | with_reducible refine blk_drew ?_)); exact (blk_new _ _)) hb)
 have HG_BK_x0 : Aside0 (w5.heap.size < w6.heap.size) := ⟨blk_lt BK_x0.out⟩
 have HW := Aside0.mk (below_step (w := w5) Own.bel hb)
 have HZ6 : Aside0 (w5.heap.size ≤ w6.heap.size) := ⟨HW.out.size⟩
 replace HB := Aside0.mk (below_step HB.out HW.out)
 replace F1 := Aside0.mk (Kd.R_below F1.out HW.out)
 replace F2 := Aside0.mk (Kd.R_below F2.out HW.out)
 replace F3 := Aside0.mk (Kd.R_below F3.out HW.out)
 replace BK_aB := Aside0.mk (blk_below BK_aB.out HW.out)
 obtain ⟨lo4_, F4, HLO4⟩ := Own.R_ivb (wN := w5) (w5.heap.size) rfl hf4 HN.out Own.bel hb (blk_lt (o := .cells #[.int .i64 a0_0, .int .i64 a0_1, .slice A3_ ml0_2.length c3_] 24 (0, 0)) (by (repeat (first | with_reducible refine blk_drewN ?_ _ | with_reducible refine blk_drew ?_)); exact (blk_new _ _)))
 obtain ⟨A4_, c4_, e4_⟩ := Kd.R_slice F4.out
 subst e4_
 clear hb HW HN hf4
 have czBK_aB_0 : w6.cell? ⟨w.heap.size, 0, none⟩ = some (.int .i64 a0_0) := (blk_cell BK_aB.out 0).trans rfl
 have czBK_aB_1 : w6.cell? ⟨w.heap.size, 1, none⟩ = some (.int .i64 a0_1) := (blk_cell BK_aB.out 1).trans rfl
 have czBK_aB_2 : w6.cell? ⟨w.heap.size, 2, none⟩ = some (.slice A0_2 l0_2.length c0_2) := (blk_cell BK_aB.out 2).trans rfl
 have czBK_x0_0 : w6.cell? ⟨w5.heap.size, 0, none⟩ = some (.int .i64 a0_0) := (blk_cell BK_x0.out 0).trans rfl
 have czBK_x0_1 : w6.cell? ⟨w5.heap.size, 1, none⟩ = some (.int .i64 a0_1) := (blk_cell BK_x0.out 1).trans rfl
 have czBK_x0_2 : w6.cell? ⟨w5.heap.size, 2, none⟩ = some (.slice A3_ ml0_2.length c3_) := (blk_cell BK_x0.out 2).trans rfl
 go_wp2_with fail
 refine (impl_AddsWith.calls k _ _ _ _ _ _ _ _ _ _ _ _ (Kd.C_below (Kd.R_reads' F3.out).2.2 Own.bel) (Kd.R_reads' F3.out).2.1 (Kd.C_below (Kd.R_reads' F4.out).2.2 Own.bel) (Kd.R_reads' F4.out).2.1 He_impl.out).mono ?_
 rintro e w7 ⟨rfl, hb⟩
 clear czBK_aB_0 czBK_aB_1 czBK_aB_2 czBK_x0_0 czBK_x0_1 czBK_x0_2
 have HN := Aside0.mk HB.out.size
 have HW := Aside0.mk (below_step (w := w6) Own.bel hb)
 have HZ7 : Aside0 (w6.heap.size ≤ w7.heap.size) := ⟨HW.out.size⟩
 replace HB := Aside0.mk (below_step HB.out HW.out)
 replace F1 := Aside0.mk (Kd.R_below F1.out HW.out)
 replace F2 := Aside0.mk (Kd.R_below F2.out HW.out)
 replace F3 := Aside0.mk (Kd.R_below F3.out HW.out)
 replace F4 := Aside0.mk (Kd.R_below F4.out HW.out)
 replace BK_aB := Aside0.mk (blk_below BK_aB.out HW.out)
 replace BK_x0 := Aside0.mk (blk_below BK_x0.out HW.out)
 clear hb HW HN 
 have czBK_aB_0 : w7.cell? ⟨w.heap.size, 0, none⟩ = some (.int .i64 a0_0) := (blk_cell BK_aB.out 0).trans rfl
 have czBK_aB_1 : w7.cell? ⟨w.heap.size, 1, none⟩ = some (.int .i64 a0_1) := (blk_cell BK_aB.out 1).trans rfl
 have czBK_aB_2 : w7.cell? ⟨w.heap.size, 2, none⟩ = some (.slice A0_2 l0_2.length c0_2) := (blk_cell BK_aB.out 2).trans rfl
 have czBK_x0_0 : w7.cell? ⟨w5.heap.size, 0, none⟩ = some (.int .i64 a0_0) := (blk_cell BK_x0.out 0).trans rfl
 have czBK_x0_1 : w7.cell? ⟨w5.heap.size, 1, none⟩ = some (.int .i64 a0_1) := (blk_cell BK_x0.out 1).trans rfl
 have czBK_x0_2 : w7.cell? ⟨w5.heap.size, 2, none⟩ = some (.slice A3_ ml0_2.length c3_) := (blk_cell BK_x0.out 2).trans rfl
 go_wp2_with fail
 refine start_ (n := 5) (S := fun w' => w'.cell? ⟨w5.heap.size, 0, none⟩ = some (.int .i64 a0_0) ∧ w'.cell? ⟨w5.heap.size, 1, none⟩ = some (.int .i64 a0_1) ∧ w'.cell? ⟨w5.heap.size, 2, none⟩ = some (.slice A3_ ml0_2.length c3_) ∧ w'.cell? ⟨w.heap.size, 0, none⟩ = some (.int .i64 a0_0) ∧ w'.cell? ⟨w.heap.size, 1, none⟩ = some (.int .i64 a0_1) ∧ w'.cell? ⟨w.heap.size, 2, none⟩ = some (.slice A0_2 l0_2.length c0_2)) (ds := []) #[false,false,false,false,false] (by kernel_rfl) rfl rfl ⟨(blk_cell BK_x0.out 0).trans rfl, (blk_cell BK_x0.out 1).trans rfl, (blk_cell BK_x0.out 2).trans rfl, (blk_cell BK_aB.out 0).trans rfl, (blk_cell BK_aB.out 1).trans rfl, (blk_cell BK_aB.out 2).trans rfl⟩ (fun hHeld => ?_)
 refine Own.anew_ (wN := w7) Own.bel hHeld (fun w8 hb hHeld => ?_)
 clear czBK_aB_0 czBK_aB_1 czBK_aB_2 czBK_x0_0 czBK_x0_1 czBK_x0_2
 have HW := Aside0.mk hb
 have HZ8 : Aside0 (w7.heap.size ≤ w8.heap.size) := ⟨HW.out.size⟩
 replace HB := Aside0.mk (below_step HB.out HW.out)
 replace F1 := Aside0.mk (Kd.R_below F1.out HW.out)
 replace F2 := Aside0.mk (Kd.R_below F2.out HW.out)
 replace F3 := Aside0.mk (Kd.R_below F3.out HW.out)
 replace F4 := Aside0.mk (Kd.R_below F4.out HW.out)
 replace BK_aB := Aside0.mk (blk_below BK_aB.out HW.out)
 replace BK_x0 := Aside0.mk (blk_below BK_x0.out HW.out)
 clear hb HW
 refine Own.tk_ (i := 0) (N := some 50) #[true,false,false,false,false] hHeld ?_
 refine Own.tk_ (i := 1) (N := some 51) #[true,true,false,false,false] hHeld ?_
 refine one_ (i := 2) (N := some 52) #[true,true,true,false,false] rfl rfl (by kernel_rfl) (by decide) (fun K hK => ?_)
 refine goes_ Try.func20 (by kernel_rfl) rfl #[.agg #[.int .i64 a0_0, .int .i64 a0_1, .slice A0_2 l0_2.length c0_2]] (by rfl) rfl rfl Own.mapd ?_
 with_reducible refine (laws_toBoard.calls k _ _ _ _ _ _ _ _ _ (Kd.C_below HR0_2.out (below_step HB.out Own.bel)) HC0_2.out He_to_aB.out).mono ?_
 rintro e w9 ⟨vq8_0, rfl, hf5, hb⟩
 refine ⟨_, rfl, ?_⟩
 have HN := Aside0.mk HB.out.size
 have HW := Aside0.mk (below_step (w := w8) Own.bel hb)
 have HZ9 : Aside0 (w8.heap.size ≤ w9.heap.size) := ⟨HW.out.size⟩
 replace HB := Aside0.mk (below_step HB.out HW.out)
 replace F1 := Aside0.mk (Kd.R_below F1.out HW.out)
 replace F2 := Aside0.mk (Kd.R_below F2.out HW.out)
 replace F3 := Aside0.mk (Kd.R_below F3.out HW.out)
 replace F4 := Aside0.mk (Kd.R_below F4.out HW.out)
 replace BK_aB := Aside0.mk (blk_below BK_aB.out HW.out)
 replace BK_x0 := Aside0.mk (blk_below BK_x0.out HW.out)
 obtain ⟨lo5_, F5, HLO5⟩ := Own.R_iv (wN := w8) rfl hf5 HN.out Own.bel hb
 obtain ⟨A5_, c5_, e5_⟩ := Kd.R_slice F5.out
 subst e5_
 clear hb HW HN hf5
 refine hK.out _ _ ⟨(blk_cell BK_x0.out 0).trans rfl, (blk_cell BK_x0.out 1).trans rfl, (blk_cell BK_x0.out 2).trans rfl, (blk_cell BK_aB.out 0).trans rfl, (blk_cell BK_aB.out 1).trans rfl, (blk_cell BK_aB.out 2).trans rfl⟩ (fun hHeld => ?_)
 clear hK K
 refine Own.nm_ (some 52) ?_
 refine one_ (i := 3) (N := some 53) #[true,true,true,true,false] rfl rfl (by kernel_rfl) (by decide) (fun K hK => ?_)
 refine goes_ Try.func15 (by kernel_rfl) rfl #[.agg #[.int .i64 a0_0, .int .i64 a0_1, .slice A3_ ml0_2.length c3_], .agg #[.int .i64 a0_0, .int .i64 a0_1, .slice A5_ ml0_2.length c5_]] (by rfl) rfl rfl Own.mapd ?_
 with_reducible refine (laws_eqBoard.calls k _ _ _ _ _ _ _ _ _ _ _ _ (Kd.C_below (Kd.R_reads' F3.out).2.2 Own.bel) (Kd.R_reads' F3.out).2.1 (Kd.C_below (Kd.R_reads' F5.out).2.2 Own.bel) (Kd.R_reads' F5.out).2.1 He_eq_x0.out).mono ?_
 rintro e w10 ⟨rfl, hb⟩
 refine ⟨_, rfl, ?_⟩
 have HW := Aside0.mk (below_step (w := w9) Own.bel hb)
 have HZ10 : Aside0 (w9.heap.size ≤ w10.heap.size) := ⟨HW.out.size⟩
 replace HB := Aside0.mk (below_step HB.out HW.out)
 replace F1 := Aside0.mk (Kd.R_below F1.out HW.out)
 replace F2 := Aside0.mk (Kd.R_below F2.out HW.out)
 replace F3 := Aside0.mk (Kd.R_below F3.out HW.out)
 replace F4 := Aside0.mk (Kd.R_below F4.out HW.out)
 replace BK_aB := Aside0.mk (blk_below BK_aB.out HW.out)
 replace BK_x0 := Aside0.mk (blk_below BK_x0.out HW.out)
 clear hb HW
 refine hK.out _ _ ⟨(blk_cell BK_x0.out 0).trans rfl, (blk_cell BK_x0.out 1).trans rfl, (blk_cell BK_x0.out 2).trans rfl, (blk_cell BK_aB.out 0).trans rfl, (blk_cell BK_aB.out 1).trans rfl, (blk_cell BK_aB.out 2).trans rfl⟩ (fun hHeld => ?_)
 clear hK K
 refine Own.nm_ (some 53) ?_
 refine Own.pu_ (i := 4) (N := some 54) #[true,true,true,true,true] ?_
 refine done_ (by kernel_rfl) ?_
 clear hHeld
 have czBK_aB_0 : w10.cell? ⟨w.heap.size, 0, none⟩ = some (.int .i64 a0_0) := (blk_cell BK_aB.out 0).trans rfl
 have czBK_aB_1 : w10.cell? ⟨w.heap.size, 1, none⟩ = some (.int .i64 a0_1) := (blk_cell BK_aB.out 1).trans rfl
 have czBK_aB_2 : w10.cell? ⟨w.heap.size, 2, none⟩ = some (.slice A0_2 l0_2.length c0_2) := (blk_cell BK_aB.out 2).trans rfl
 have czBK_x0_0 : w10.cell? ⟨w5.heap.size, 0, none⟩ = some (.int .i64 a0_0) := (blk_cell BK_x0.out 0).trans rfl
 have czBK_x0_1 : w10.cell? ⟨w5.heap.size, 1, none⟩ = some (.int .i64 a0_1) := (blk_cell BK_x0.out 1).trans rfl
 have czBK_x0_2 : w10.cell? ⟨w5.heap.size, 2, none⟩ = some (.slice A3_ ml0_2.length c3_) := (blk_cell BK_x0.out 2).trans rfl
 go_wp2_with fail
 refine (laws_toIntS.calls k _ _ _ _ _ (Kd.C_below HR2.out (below_step HB.out Own.bel)) HC2.out He_to_aBits.out).mono ?_
 rintro e w11 ⟨vq219_0, rfl, hf6, hb⟩
 clear czBK_aB_0 czBK_aB_1 czBK_aB_2 czBK_x0_0 czBK_x0_1 czBK_x0_2
 have HN := Aside0.mk HB.out.size
 have HW := Aside0.mk (below_step (w := w10) Own.bel hb)
 have HZ11 : Aside0 (w10.heap.size ≤ w11.heap.size) := ⟨HW.out.size⟩
 replace HB := Aside0.mk (below_step HB.out HW.out)
 replace F1 := Aside0.mk (Kd.R_below F1.out HW.out)
 replace F2 := Aside0.mk (Kd.R_below F2.out HW.out)
 replace F3 := Aside0.mk (Kd.R_below F3.out HW.out)
 replace F4 := Aside0.mk (Kd.R_below F4.out HW.out)
 replace BK_aB := Aside0.mk (blk_below BK_aB.out HW.out)
 replace BK_x0 := Aside0.mk (blk_below BK_x0.out HW.out)
 obtain ⟨lo6_, F6, HLO6⟩ := Own.R_iv (wN := w10) rfl hf6 HN.out Own.bel hb
 obtain ⟨A6_, c6_, e6_⟩ := Kd.R_slice F6.out
 subst e6_
 clear hb HW HN hf6
 have czBK_aB_0 : w11.cell? ⟨w.heap.size, 0, none⟩ = some (.int .i64 a0_0) := (blk_cell BK_aB.out 0).trans rfl
 have czBK_aB_1 : w11.cell? ⟨w.heap.size, 1, none⟩ = some (.int .i64 a0_1) := (blk_cell BK_aB.out 1).trans rfl
 have czBK_aB_2 : w11.cell? ⟨w.heap.size, 2, none⟩ = some (.slice A0_2 l0_2.length c0_2) := (blk_cell BK_aB.out 2).trans rfl
 have czBK_x0_0 : w11.cell? ⟨w5.heap.size, 0, none⟩ = some (.int .i64 a0_0) := (blk_cell BK_x0.out 0).trans rfl
 have czBK_x0_1 : w11.cell? ⟨w5.heap.size, 1, none⟩ = some (.int .i64 a0_1) := (blk_cell BK_x0.out 1).trans rfl
 have czBK_x0_2 : w11.cell? ⟨w5.heap.size, 2, none⟩ = some (.slice A3_ ml0_2.length c3_) := (blk_cell BK_x0.out 2).trans rfl
 go_wp2_with fail
 refine (laws_eqIntS.calls k _ _ _ _ _ _ _ _ (Kd.C_below (Kd.R_reads' F4.out).2.2 Own.bel) (Kd.R_reads' F4.out).2.1 (Kd.C_below (Kd.R_reads' F6.out).2.2 Own.bel) (Kd.R_reads' F6.out).2.1 He_eq_x2.out).mono ?_
 rintro e _ ⟨rfl, ⟨nd245_, rfl⟩⟩
 go_wp2_with fail
 go_ret
 exact ⟨rfl, below_step HB.out Own.bel⟩
end Go.Proofs.Ytcilbmbgdcepgaa.P
end

section
/- What the printed helpers on numbers and on lists of numbers come to. -/
namespace Go.Proofs.Ytcilbmbgdcepgaa.A
open Go.RowKit YtcilbmbgdcepgaaW.PrintWords YtcilbmbgdcepgaaW.PrintLast YtcilbmbgdcepgaaW.PrintMore P T
set_option linter.unusedVariables false
set_option linter.unusedSimpArgs false
theorem toInts_loop (l : List Int) : ∀ (suf pre qsuf : List Int), l = pre ++ suf → l.length ≤ maxLen → qsuf.length = suf.length →
  Ev (fun k => laws_toIntS.l0 k l (pre ++ qsuf) (pre.length : Int)) l := by
 intro suf
 induction suf with
 | nil =>
  intro pre qsuf hl hm h2
  subst hl
  obtain rfl : qsuf = [] := List.length_eq_zero_iff.1 h2
  refine Ev.step (fun k => laws_toIntS.l0.eq_2 ..) ?_
  exact ev_neg (not_lt_end _) (ev_const rfl)
 | cons y suf ih =>
  intro pre qsuf hl hm h2
  subst hl
  obtain ⟨z, qsuf, rfl⟩ : ∃ z t, qsuf = z :: t := by cases qsuf with | nil => simp at h2 | cons z t => exact ⟨z, t, rfl⟩
  refine Ev.step (fun k => laws_toIntS.l0.eq_2 ..) ?_
  refine ev_pos (lt_mid _ _ _) (ev_pos (by omega) (ev_pos (lt_mid _ _ _) ?_))
  rw [next_mid _ _ _ hm, set_mid, rd_mid]
  exact ih (pre ++ [y]) qsuf (assoc_mid _ _ _) hm (by simpa using h2)
theorem toInts (l : List Int) (h : l.length ≤ 1048576) : Ev (fun k => laws_toIntS.f k l) l := by
 have := toInts_loop l l [] (List.replicate l.length 0) rfl (by simp only [maxLen]; omega) (by simp)
 unfold laws_toIntS.f
 refine ev_pos (by omega) (ev_pos (by simp; omega) ?_)
 simpa using this
theorem eqInts_loop (l : List Int) : ∀ (suf pre : List Int), l = pre ++ suf → l.length ≤ maxLen → Ev (fun k => laws_eqIntS.l0 k l l (pre.length : Int)) true := by
 intro suf
 induction suf with
 | nil =>
  intro pre hl hm
  subst hl
  refine Ev.step (fun k => laws_eqIntS.l0.eq_2 ..) ?_
  exact ev_neg (not_lt_end _) (ev_const rfl)
 | cons y suf ih =>
  intro pre hl hm
  subst hl
  refine Ev.step (fun k => laws_eqIntS.l0.eq_2 ..) ?_
  refine ev_pos (lt_mid _ _ _) (ev_pos (by omega) (ev_pos (lt_mid _ _ _) (ev_pos rfl ?_)))
  rw [next_mid _ _ _ hm]
  exact ih (pre ++ [y]) (assoc_mid _ _ _) hm
theorem eqInts (l : List Int) (h : l.length ≤ maxLen) : Ev (fun k => laws_eqIntS.f k l l) true := by
 unfold laws_eqIntS.f
 exact ev_pos rfl (eqInts_loop l l [] rfl h)
end Go.Proofs.Ytcilbmbgdcepgaa.A
end

section
/- FnExactAddsWith: the program's AddsWith returns what the reference's returns, for all boards that are not greater than 2^20 cells and all lists that are not longer than 2^20 numbers (as the law's own guards say) and all numbers. -/
namespace Go.Proofs.Ytcilbmbgdcepgaa.A
open Go.RowKit YtcilbmbgdcepgaaW.PrintWords YtcilbmbgdcepgaaW.PrintLast YtcilbmbgdcepgaaW.PrintMore P T
set_option linter.unusedVariables false
set_option linter.unusedSimpArgs false

theorem lawFnExactAddsWith (a0_0 a0_1 : Int) (A0_2 : Option Addr) (c0_2 : Nat) (l0_2 : List S96) (a1 : Int) (A2 : Option Addr) (c2 : Nat) (l2 : List Int) (w : World) (h1 : Kd.C k96 w A0_2 l0_2.length l0_2) (hc1 : l0_2.length ≤ c0_2) (hm : l0_2.length ≤ maxLen) (h2 : Kd.C (Kd.int .i64) w A2 l2.length l2) (hc2 : l2.length ≤ c2) :
  Calls Try.prog 11 #[.agg #[.int .i64 a0_0, .int .i64 a0_1, .slice A0_2 l0_2.length c0_2], .int .i64 a1, .slice A2 l2.length c2] w fun e w' => e = .returned (.bool true) ∧ Below w.heap.size w w' := by
 by_cases hb : (l2.length : Int) > 1048576
 ·exact FnExactAddsWith_small0 0 _ _ _ _ _ _ _ _ _ w h1 hc1 h2 hc2 hb
 have e0 := szBo a0_0 a0_1 l0_2 1048576 (by omega) hm
 by_cases hs : (1048576 : Int) - (l0_2.length : Int) < 0
 ·rw [if_pos hs] at e0
  exact FnExactAddsWith_small1 0 _ _ _ _ _ _ _ _ _ _ w h1 hc1 h2 hc2 (by omega) e0 (by omega)
 rw [if_neg hs] at e0
 have hlen : l0_2.length ≤ 1048576 := by omega
 have hml : (l0_2.map cpC).length ≤ maxLen := by simp [maxLen]; omega
 have hmn : (l0_2.map cpC).length ≤ 1048576 := by simp; omega
 obtain ⟨K1, e1⟩ := toBo a0_0 a0_1 l0_2 hlen
 obtain ⟨K2, e2⟩ := toInts l2 (by omega)
 obtain ⟨K5, e5⟩ := eqBo a0_0 a0_1 (l0_2.map cpC) hml
 obtain ⟨K6, e6⟩ := eqInts l2 (by simp only [maxLen]; omega)
 have e3 : ∀ k, spec_AddsWith.f k a0_0 a0_1 (l0_2.map cpC) a1 l2 = some (resAW a0_0 a0_1 (l0_2.map cpC) a1 l2) := fun k => by unfold spec_AddsWith.f; rw [if_pos hml]
 have e4 : ∀ k, impl_AddsWith.f k a0_0 a0_1 (l0_2.map cpC) a1 l2 = some (resAW a0_0 a0_1 (l0_2.map cpC) a1 l2) := fun k => by unfold impl_AddsWith.f; rw [if_pos hml]
 obtain ⟨⟨t0, t1⟩, ht⟩ : ∃ t, t = resAW a0_0 a0_1 (l0_2.map cpC) a1 l2 := ⟨_, rfl⟩
 rw [← ht] at e3 e4
 exact FnExactAddsWith_walk (K1 + K2 + K5 + K6) _ _ _ _ _ _ _ _ _ _ (l0_2.map cpC) t0 t1 w h1 hc1 h2 hc2 (by omega) e0 (by omega) (e1 _ (by omega)) (e2 _ (by omega)) (e3 _) (e4 _) (e5 _ (by omega)) (e6 _ (by omega))
end Go.Proofs.Ytcilbmbgdcepgaa.A
end

section
/- Opens an argument that a row reads as data into the cells and lists that a contract speaks of: whole numbers, slices, structs of two and three fields. -/
namespace Go.Proofs.Ytcilbmbgdcepgaa.Op
open Go.ChangeShapes Go.WideShapes Go.Deep Go.RowKit YtcilbmbgdcepgaaW.PrintWords
set_option linter.unusedVariables false

/-- What reads as data of type t is of kind d, and meets wf. -/
def Opens (P : Program) (t : TypeId) {α : Type} (d : Kd α) (wf : α → Prop) : Prop :=
 ∀ {H : Type} {enc : TypeId × Value → H} {w : World} {base : Nat} {spare : Nat → Bool} {held : Bool} {fuel : Nat} {cs : List Value} {x : DataW H × List MemPlace},
  DataW.trod enc P w base spare held fuel t cs = some x → ∃ a, d.K w a cs ∧ wf a

def WNum (k : IntKind) (n : Int) : Prop := (Lit.int k n).wf = true
abbrev WInt : Int → Prop := WNum .i64
def WList {α : Type} (wf : α → Prop) (l : List α) : Prop := l.length ≤ maxLen ∧ ∀ a ∈ l, wf a

theorem opens_int {P : Program} {t : TypeId} {k : IntKind} (h : P.underlying t = some (.int k)) : Opens P t (Kd.int k) (WNum k) := by
 intro H enc w base spare held fuel cs x ht
 obtain ⟨n, rfl, _, hw⟩ := DataW.trod_int h ht
 exact ⟨n, rfl, hw⟩

theorem opens_slice {P : Program} {t e : TypeId} {α : Type} {d : Kd α} {wf : α → Prop} (q : Nat) (h : P.underlying t = some (.slice e)) (hc : P.cellsOf e = d.sz) (o : Opens P e d wf) :
  Opens P t (Kd.slice q d) (WList wf) := by
 intro H enc w base spare held fuel cs x ht
 rcases open_slice h ht with ⟨rfl, _⟩ | ⟨a, len, cap, m, n, D, Pl, rfl, hb, hl, hm, hmm, hx, hi⟩
 ·exact ⟨[], ⟨none, 0, rfl, Nat.le_refl _, rfl, by simp, fun hn => by simp at hn⟩, by simp [WList]⟩
 ·have hlm : len ≤ m := by rw [hmm]; split <;> omega
  have each : ∀ i, i < len → ∃ y cs', w.cells? base (a.add (i * d.sz)) d.sz = some cs' ∧ d.K w y cs' ∧ wf y := by
   intro i hil
   obtain ⟨cs', h1, h2⟩ := hi i (by omega)
   obtain ⟨y, hk, hw⟩ := o h2
   rw [hc] at h1
   exact ⟨y, cs', h1, hk, hw⟩
  have build : ∀ k, k ≤ len → ∃ ys : List α, ys.length = k ∧ (∀ y ∈ ys, wf y) ∧ ∀ j y, ys[j]? = some y → ∃ c, c.length = d.sz ∧ d.K w y c ∧ ∀ i u, c[i]? = some u → w.cell? (a.add (j * d.sz + i)) = some u := by
   intro k
   induction k with
   | zero => exact fun _ => ⟨[], rfl, by simp, by simp⟩
   | succ k ih =>
    intro hk
    obtain ⟨ys, hlen, hwf, hys⟩ := ih (by omega)
    obtain ⟨y, cs', h1, h2, h3⟩ := each k (by omega)
    obtain ⟨_, hcl, hat⟩ := World.cells?_some h1
    refine ⟨ys ++ [y], by simp [hlen], ?_, ?_⟩
    ·intro z hz
     rcases List.mem_append.1 hz with hz | hz
     ·exact hwf z hz
     ·rw [List.mem_singleton.1 hz]; exact h3
    ·intro j z hj
     by_cases hjk : j < k
     ·rw [List.getElem?_append_left (by omega)] at hj
      exact hys j z hj
     ·have hjl : j < (ys ++ [y]).length := (List.getElem?_eq_some_iff.1 hj).1
      simp only [List.length_append, List.length_singleton, hlen] at hjl
      obtain rfl : j = k := by omega
      rw [List.getElem?_append_right (by omega), hlen, Nat.sub_self] at hj
      obtain rfl : y = z := by simpa using hj
      refine ⟨cs', hcl, h2, fun i u hu => ?_⟩
      have hil : i < d.sz := by
       have := (List.getElem?_eq_some_iff.1 hu).1
       omega
      have := hat i hil
      rw [Go.Deep.add_add] at this
      rw [this, hu]
  obtain ⟨ys, hlen, hwf, hys⟩ := build len (Nat.le_refl _)
  have hmx : len ≤ maxLen := by omega
  exact ⟨ys, ⟨some a, cap, by rw [hlen], by rw [hlen]; exact hl, rfl, by rw [hlen]; exact hmx, fun _ => ⟨a, rfl, hys⟩⟩, by rw [hlen]; exact hmx, hwf⟩

theorem opens_iso {P : Program} {t : TypeId} {α β : Type} {d : Kd α} {wf : α → Prop} (f : β → α) (g : α → β) (hg : ∀ a, f (g a) = a) (o : Opens P t d wf) : Opens P t (Kd.iso d f) (fun b => wf (f b)) := by
 intro H enc w base spare held fuel cs x ht
 obtain ⟨a, h1, h2⟩ := o ht
 exact ⟨g a, by show d.K w (f (g a)) cs; rw [hg]; exact h1, by show wf (f (g a)); rw [hg]; exact h2⟩

theorem opens_two {P : Program} {t : TypeId} {f0 f1 : Field} {α β : Type} {a : Kd α} {b : Kd β} {wa : α → Prop} {wb : β → Prop}
  (h : P.underlying t = some (.struct #[f0, f1])) (hc : P.cellsOf t = a.sz + b.sz) (o0 : f0.offset = 0) (o1 : f1.offset = a.sz) (c0 : P.cellsOf f0.type = a.sz) (c1 : P.cellsOf f1.type = b.sz)
  (oa : Opens P f0.type a wa) (ob : Opens P f1.type b wb) : Opens P t (Kd.pair a b) (fun x => wa x.1 ∧ wb x.2) := by
 intro H enc w base spare held fuel cs x ht
 obtain ⟨xs, n, _, _, hlen, hxl, hf⟩ := DataW.trod_struct h ht
 have hx2 : xs.length = 2 := hxl
 have h0 := hf 0 f0 rfl
 have h1 := hf 1 f1 rfl
 rw [List.getElem?_eq_getElem (by omega)] at h0 h1
 obtain ⟨y0, k0, w0⟩ := oa h0
 obtain ⟨y1, k1, w1⟩ := ob h1
 refine ⟨(y0, y1), ⟨_, _, ?_, k0, k1⟩, w0, w1⟩
 rw [hc] at hlen
 rw [o0, o1, c0, c1, List.drop_zero]
 rw [List.take_of_length_le (l := cs.drop a.sz) (by simp; omega), List.take_append_drop]

theorem opens_three {P : Program} {t : TypeId} {f0 f1 f2 : Field} {α β γ : Type} {a : Kd α} {b : Kd β} {c : Kd γ} {wa : α → Prop} {wb : β → Prop} {wc : γ → Prop}
  (h : P.underlying t = some (.struct #[f0, f1, f2])) (hc : P.cellsOf t = a.sz + (b.sz + c.sz)) (o0 : f0.offset = 0) (o1 : f1.offset = a.sz) (o2 : f2.offset = a.sz + b.sz) (c0 : P.cellsOf f0.type = a.sz) (c1 : P.cellsOf f1.type = b.sz) (c2 : P.cellsOf f2.type = c.sz)
  (oa : Opens P f0.type a wa) (ob : Opens P f1.type b wb) (oc : Opens P f2.type c wc) : Opens P t (Kd.pair a (Kd.pair b c)) (fun x => wa x.1 ∧ wb x.2.1 ∧ wc x.2.2) := by
 intro H enc w base spare held fuel cs x ht
 obtain ⟨xs, n, _, _, hlen, hxl, hf⟩ := DataW.trod_struct h ht
 have hx2 : xs.length = 3 := hxl
 have h0 := hf 0 f0 rfl
 have h1 := hf 1 f1 rfl
 have h2 := hf 2 f2 rfl
 rw [List.getElem?_eq_getElem (by omega)] at h0 h1 h2
 obtain ⟨y0, k0, w0⟩ := oa h0
 obtain ⟨y1, k1, w1⟩ := ob h1
 obtain ⟨y2, k2, w2⟩ := oc h2
 rw [hc] at hlen
 refine ⟨(y0, y1, y2), ⟨_, cs.drop a.sz, ?_, k0, ⟨_, _, ?_, k1, k2⟩⟩, w0, w1, w2⟩
 ·rw [o0, c0, List.drop_zero, List.take_append_drop]
 ·rw [o1, o2, c1, c2]
  rw [List.take_of_length_le (l := cs.drop (a.sz + b.sz)) (by simp; omega), ← List.drop_drop, List.take_append_drop]

/-- A slice among the arguments. -/
theorem open_arg_slice {P : Program} {t : TypeId} {α : Type} {d : Kd α} {wf : α → Prop} {q : Nat} (o : Opens P t (Kd.slice q d) (WList wf)) {H : Type} {enc : TypeId × Value → H} {w : World} {base : Nat} {spare : Nat → Bool} {held : Bool}
  {A : Option Addr} {len cap : Nat} {D : DataW H} {ps : List MemPlace} (h : DataW.Trod enc P w base spare held t (.slice A len cap) D ps) :
  ∃ l : List α, len = l.length ∧ l.length ≤ cap ∧ d.C w A l.length l ∧ WList wf l := by
 obtain ⟨fuel, hf⟩ := h
 obtain ⟨l, ⟨A', c, he, hl, hC⟩, hw⟩ := o hf
 simp only [Value.cells, List.cons.injEq, Value.slice.injEq, and_true] at he
 obtain ⟨rfl, rfl, rfl⟩ := he
 exact ⟨l, rfl, hl, hC, hw⟩
end Go.Proofs.Ytcilbmbgdcepgaa.Op
end

section
/- FnExactAddsWith: the program and the reference agree for all arguments: the row over the pure statement. -/
namespace Go.Proofs.Ytcilbmbgdcepgaa.fnExactAddsWith
open Go.ChangeShapes Go.WideShapes Go.ChangeAt Go.RowKit
open Go.ChangeMaps (open_string shut_string)
open Go.Proofs.Ytcilbmbgdcepgaa.Op
set_option linter.unusedVariables false
theorem own : ownKnob Try.prog.godebug = none := by kernel_rfl
theorem laidOut : laidOutB Try.prog = true := by kernel_rfl
theorem ty3 : Opens Try.prog 3 (Go.Proofs.YtcilbmbgdcepgaaW.PrintWords.Kd.int .i64) (WNum .i64) := opens_int Try.underlying3
theorem ty96 : Opens Try.prog 96 P.k96 (fun x : P.S96 => (WNum .i64) x.f0 ∧ (WNum .i64) x.f1) := opens_iso (fun x : P.S96 => (x.f0, x.f1)) (fun a => ⟨a.1, a.2⟩) (fun _ => rfl) (opens_two Try.underlying96 (by kernel_rfl) (by kernel_rfl) (by kernel_rfl) (by kernel_rfl) (by kernel_rfl) ty3 ty3)
theorem ty30 : Opens Try.prog 30 (Go.Proofs.YtcilbmbgdcepgaaW.PrintWords.Kd.slice 96 P.k96) (WList (fun x : P.S96 => (WNum .i64) x.f0 ∧ (WNum .i64) x.f1)) := opens_slice 96 Try.underlying30 (by kernel_rfl) ty96
theorem tw32 : Opens Try.prog 32 (Go.Proofs.YtcilbmbgdcepgaaW.PrintWords.Kd.pair (Go.Proofs.YtcilbmbgdcepgaaW.PrintWords.Kd.int .i64) (Go.Proofs.YtcilbmbgdcepgaaW.PrintWords.Kd.pair (Go.Proofs.YtcilbmbgdcepgaaW.PrintWords.Kd.int .i64) (Go.Proofs.YtcilbmbgdcepgaaW.PrintWords.Kd.slice 96 P.k96))) (fun x : Int × Int × (List P.S96) => (WNum .i64) x.1 ∧ (WNum .i64) x.2.1 ∧ (WList (fun x : P.S96 => (WNum .i64) x.f0 ∧ (WNum .i64) x.f1)) x.2.2) := opens_three Try.underlying32 (by kernel_rfl) (by kernel_rfl) (by kernel_rfl) (by kernel_rfl) (by kernel_rfl) (by kernel_rfl) (by kernel_rfl) ty3 ty3 ty30
theorem ty39 : Opens Try.prog 39 (Go.Proofs.YtcilbmbgdcepgaaW.PrintWords.Kd.slice 3 (Go.Proofs.YtcilbmbgdcepgaaW.PrintWords.Kd.int .i64)) (WList (WNum .i64)) := opens_slice 3 Try.underlying39 (by kernel_rfl) ty3
set_option maxRecDepth 100000 in
theorem lifted (os : Os) (started : os.Started) (H : Type) (enc : TypeId × Value → H) :
    ReturnsInHanded {} Try.checked os 11 .any (Rows.fnExactAddsWithSpec.pre6 enc Try.prog Try.f11 Rows.fnExactAddsWithRow.domain false) (Rows.fnExactAddsWithSpec.post enc Try.prog Try.f11 false true false false) := by
  refine returnsInHanded_of_change_sized (C := Try.checked) own started (by kernel_rfl) Try.func11
    (ChangeSpec.witness6 (enc := enc) (C := Try.checked) false ⟨#[], #[.agg #[.int .i64 0, .int .i64 0, .slice none 0 0], .int .i64 0, .slice none 0 0], []⟩ 8 (by kernel_rfl) (by kernel_rfl) (by kernel_rfl) (by kernel_rfl)) ?_
  intro W base args ds gs before hval0 hW hcnd hsz0 _
  have hsz : (DataW.weightsEach Try.prog (Try.f11.params.toList ++ Rows.fnExactAddsWithSpec.plain.varTypes Try.prog) (ds ++ gs)).all (· ≤ reachBytes) = true := hsz0
  have hval : ∀ (j : Nat) t v, Try.f11.params[j]? = some t → args[j]? = some v → Value.okWide Try.prog W .any base t v := hval0
  have hW' := hW
  obtain ⟨p, q, hA0, hV, rfl, hfz, hnd⟩ := hW
  have hA : DataW.TrodAll enc Try.prog W 0 (fun _ => true) true Try.f11.params.toList args.toList ds p := hA0
  rw [Try.params11] at hA hval hsz
  obtain ⟨v0, vs0, d0, ds0, p0, q0, hargs, rfl, rfl, h0, r0⟩ := trodAll_cons hA
  obtain ⟨v1, vs1, d1, ds1, p1, q1, rfl, rfl, rfl, h1, r1⟩ := trodAll_cons r0
  obtain ⟨v2, vs2, d2, ds2, p2, q2, rfl, rfl, rfl, h2, r2⟩ := trodAll_cons r1
  obtain ⟨rfl, rfl, rfl⟩ := trodAll_nil r2
  obtain rfl : args = #[v0, v1, v2] := by cases args; simp_all
  obtain ⟨rfl, rfl⟩ := trodVars_none hV
  have k0 := h0
  have lt0 : ∀ x ∈ p0, x.block < W.heap.size := by obtain ⟨m, hm⟩ := k0; exact DataW.trod_lt m _ _ _ hm
  obtain ⟨cs0, rfl, _⟩ := okWide_struct Try.underlying32 (hval 0 32 v0 rfl rfl)
  obtain ⟨csl0⟩ := cs0
  obtain ⟨fu0, hf0⟩ := h0
  obtain ⟨⟨a0_0, a0_1, l0_2⟩, ⟨x0_0, xr0, ex0, e0_0, ⟨x0_1, x0_2, er0, e0_1, ⟨A0_2, c0_2, e0_2, hc0_2, hC0_2⟩⟩⟩, ⟨w0_0, w0_1, w0_2⟩⟩ := tw32 hf0
  replace e0_0 : x0_0 = [Value.int .i64 a0_0] := e0_0
  replace e0_1 : x0_1 = [Value.int .i64 a0_1] := e0_1
  replace e0_2 : x0_2 = [Value.slice A0_2 l0_2.length c0_2] := e0_2
  replace hc0_2 : l0_2.length ≤ c0_2 := hc0_2
  replace hC0_2 : Go.Proofs.YtcilbmbgdcepgaaW.PrintWords.Kd.C P.k96 W A0_2 l0_2.length l0_2 := hC0_2
  replace w0_0 : (WNum .i64) a0_0 := w0_0
  replace w0_1 : (WNum .i64) a0_1 := w0_1
  replace w0_2 : (WList (fun x : P.S96 => (WNum .i64) x.f0 ∧ (WNum .i64) x.f1)) l0_2 := w0_2
  subst e0_1 e0_2 er0 e0_0 ex0
  obtain ⟨a1, rfl, rfl, rfl, w1⟩ := open_int Try.underlying3 (hval 1 3 v1 rfl rfl) h1
  have k2 := h2
  have lt2 : ∀ x ∈ p2, x.block < W.heap.size := by obtain ⟨m, hm⟩ := k2; exact DataW.trod_lt m _ _ _ hm
  obtain ⟨A2, len2, cap2, rfl⟩ := okWide_slice Try.underlying39 (hval 2 39 v2 rfl rfl)
  obtain ⟨l2, rfl, hc2, hC2, w2⟩ := open_arg_slice ty39 h2
  clear hA0 hval0 hsz0 hsz
  refine (A.lawFnExactAddsWith a0_0 a0_1 A0_2 c0_2 l0_2 a1 A2 cap2 l2 W hC0_2 hc0_2 w0_2.1 hC2 hc2).mono fun e W' ⟨he, bel⟩ => ?_
  subst he
  exact ⟨_, rfl, _, _, _, [], _, [], hW', trodAll_mk1 (shut_bool Try.underlying4 _), (trodAll_cons_mk (Below.trod laidOut (by kernel_rfl) (of_decide_eq_true (by kernel_rfl)) k0 bel lt0) (trodAll_cons_mk (shut_int Try.underlying3 w1) (trodAll_cons_mk (Below.trod laidOut (by kernel_rfl) (of_decide_eq_true (by kernel_rfl)) k2 bel lt2) trodAll_mk0))), rfl, bel.frame _, fun h => by cases h⟩
theorem over : Rows.fnExactAddsWithRow.holds Try.pinned (OpenSpec.ofChange Rows.fnExactAddsWithSpec) :=
  OpenClaim.holds_of_wide 11 Try.f11 rfl rfl rfl rfl rfl rfl rfl ⟨rfl, rfl, rfl, rfl, rfl⟩ rfl rfl rfl rfl rfl (by kernel_rfl) Try.func11 (by kernel_rfl)
    (of_decide_eq_true (by kernel_rfl)) (by unfold Func.isWrapper; first | (rw [if_pos (by decide +kernel)]; kernel_rfl) | (rw [if_neg (by decide +kernel)]; exact ⟨rfl, rfl⟩))
    (fun os started H enc _ => lifted os started H enc)
end Go.Proofs.Ytcilbmbgdcepgaa.fnExactAddsWith
namespace Go.Proofs.Ytcilbmbgdcepgaa
/-- The row. -/
theorem fnExactAddsWith_holds : Rows.FnExactAddsWithSaid := fnExactAddsWith.over
end Go.Proofs.Ytcilbmbgdcepgaa
end
