/- FnExactAutomatonTextCard: texts of this claim in one: WalkFnExactAutomatonText, LawAutomatonText, Op, VRowAut. -/
import Derived.Test.YtkfedkckakegjaaDoorPx11
import Derived.Test.YtkfedkckakegjaaDoorPx14
import Derived.Test.YtkfedkckakegjaaDoorPx3
import Derived.Test.YtkfedkckakegjaaDoorPx41
import Derived.Test.YtkfedkckakegjaaDoorPx44
import Derived.Test.YtkfedkckakegjaaDoorOwnW
import Derived.Test.YtkfedkckakegjaaDoorAAut
import Derived.Test.YtkfedkckakegjaaDoorPx10
import Derived.Deep.Slices
import Derived.ChangeSame
import Derived.ChangeArms
import Derived.Test.YtkfedkckakegjaaDoorWWords
import Derived.Test.YtkfedkckakegjaaDoorRows
import Derived.WalkKit
import Derived.ProofKit
import Derived.OpenShut
import Derived.ShutString
import Derived.ChangeOld
import Derived.Below
import Derived.SizedLaws
import Derived.OpenVars
import Derived.LaidLaws
import Derived.Handed
import Derived.Lay
import Derived.SevenTiedAt
import Derived.Test.YtkfedkckakegjaaDoorTie
import Derived.Test.YtkfedkckakegjaaDoorCards
section
/- The walk of FnExactAutomatonText along the one way on which all its tests succeed, and the short ones where an argument is too great. -/
namespace Go.Proofs.YtkfedkckakegjaaDoor.P
open Go.RowKit YtkfedkckakegjaaDoorW.PrintWords YtkfedkckakegjaaDoorW.PrintLast YtkfedkckakegjaaDoorW.PrintMore Go.Proofs.YtkfedkckakegjaaDoor
set_option linter.unusedVariables false
set_option linter.unusedSimpArgs false
set_option maxHeartbeats 4000000 in
set_option maxRecDepth 100000 in
theorem FnExactAutomatonText_small0 (k : Nat) (a0_0 : Int) (A0_1 : Option Addr) (c0_1 : Nat) (l0_1 : List (List (Int))) (A0_2 : Option Addr) (c0_2 : Nat) (l0_2 : List (Int)) (z_aA : Int) (w : World)
  (hr0_1 : Kd.C (Kd.slice 3 (Kd.int .i64)) w A0_1 l0_1.length l0_1) (hc0_1 : l0_1.length ≤ c0_1)
  (hr0_2 : Kd.C (Kd.int .i64) w A0_2 l0_2.length l0_2) (hc0_2 : l0_2.length ≤ c0_2)
  (e_sz_aA : laws_szAutomaton.f k a0_0 l0_1 l0_2 1048576 = some z_aA)
  (hz_aA : z_aA < 0) :
  Calls Tryd.prog 3 #[.agg #[.int .i64 a0_0, .slice A0_1 l0_1.length c0_1, .slice A0_2 l0_2.length c0_2]] w fun e w' => e = .returned (.bool true) ∧ Below w.heap.size w w' := by
 have hu29 := Tryd.underlying29
 have hu25 := Tryd.underlying25
 have hzb_aA : decide (z_aA < 0) = true := decide_eq_true (by omega)
 have HR0_1 := Aside0.mk hr0_1
 clear hr0_1
 have HC0_1 := Aside0.mk hc0_1
 clear hc0_1
 have HR0_2 := Aside0.mk hr0_2
 clear hr0_2
 have HC0_2 := Aside0.mk hc0_2
 clear hc0_2
 have He_sz_aA := Aside0.mk e_sz_aA
 clear e_sz_aA
 have HB := Aside0.mk (Below.refl w.heap.size w)
 go_enter Tryd.func3, Tryd.ntmps3
 go_wp2_with fail
 refine (laws_szAutomaton.calls k _ _ _ _ _ _ _ _ _ _ (Kd.C_below HR0_1.out (below_step HB.out Own.bel)) HC0_1.out (Kd.C_below HR0_2.out (below_step HB.out Own.bel)) HC0_2.out He_sz_aA.out).mono ?_
 rintro e w1 ⟨rfl, hb⟩
 have BK_aA := Aside0.mk (blk_below (g := w.heap.size) (o := .cells #[.int .i64 a0_0, .slice A0_1 l0_1.length c0_1, .slice A0_2 l0_2.length c0_2] 25 (0, 0)) (by (repeat (first | with_reducible refine blk_drewN ?_ _ | with_reducible refine blk_drew ?_)); exact (blk_new _ _)) hb)
 have HG_BK_aA : Aside0 (w.heap.size < w1.heap.size) := ⟨blk_lt BK_aA.out⟩
 have HW := Aside0.mk (below_step (w := w) Own.bel hb)
 have HZ1 : Aside0 (w.heap.size ≤ w1.heap.size) := ⟨HW.out.size⟩
 replace HB := Aside0.mk (below_step HB.out HW.out)
 clear hb HW
 have czBK_aA_0 : w1.cell? ⟨w.heap.size, 0, none⟩ = some (.int .i64 a0_0) := (blk_cell BK_aA.out 0).trans rfl
 have czBK_aA_1 : w1.cell? ⟨w.heap.size, 1, none⟩ = some (.slice A0_1 l0_1.length c0_1) := (blk_cell BK_aA.out 1).trans rfl
 have czBK_aA_2 : w1.cell? ⟨w.heap.size, 2, none⟩ = some (.slice A0_2 l0_2.length c0_2) := (blk_cell BK_aA.out 2).trans rfl
 go_wp2_with fail
 go_ret
 exact ⟨rfl, below_step HB.out Own.bel⟩
set_option maxHeartbeats 4000000 in
set_option maxRecDepth 100000 in
theorem FnExactAutomatonText_walk (k : Nat) (a0_0 : Int) (A0_1 : Option Addr) (c0_1 : Nat) (l0_1 : List (List (Int))) (A0_2 : Option Addr) (c0_2 : Nat) (l0_2 : List (Int)) (z_aA : Int) (r0 : ByteArray) (r1 : Bool) (w : World)
  (hr0_1 : Kd.C (Kd.slice 3 (Kd.int .i64)) w A0_1 l0_1.length l0_1) (hc0_1 : l0_1.length ≤ c0_1)
  (hr0_2 : Kd.C (Kd.int .i64) w A0_2 l0_2.length l0_2) (hc0_2 : l0_2.length ≤ c0_2)
  (e_sz_aA : laws_szAutomaton.f k a0_0 l0_1 l0_2 1048576 = some z_aA)
  (hz_aA : 0 ≤ z_aA)
  (e_to_aA : laws_toAutomaton.f k a0_0 l0_1 l0_2 = some (a0_0, l0_1, l0_2))
  (e_spec : spec_AutomatonText.f k a0_0 l0_1 l0_2 = some (r0, r1))
  (e_impl : impl_AutomatonText.f k a0_0 l0_1 l0_2 = some (r0, r1))
  (e_eq_x0 : laws_eqAutomaton.f k a0_0 l0_1 l0_2 a0_0 l0_1 l0_2 = some true) :
  Calls Tryd.prog 3 #[.agg #[.int .i64 a0_0, .slice A0_1 l0_1.length c0_1, .slice A0_2 l0_2.length c0_2]] w fun e w' => e = .returned (.bool true) ∧ Below w.heap.size w w' := by
 have hu29 := Tryd.underlying29
 have hu25 := Tryd.underlying25
 have hzb_aA : decide (z_aA < 0) = false := decide_eq_false (by omega)
 have HR0_1 := Aside0.mk hr0_1
 clear hr0_1
 have HC0_1 := Aside0.mk hc0_1
 clear hc0_1
 have HR0_2 := Aside0.mk hr0_2
 clear hr0_2
 have HC0_2 := Aside0.mk hc0_2
 clear hc0_2
 have He_sz_aA := Aside0.mk e_sz_aA
 clear e_sz_aA
 have He_to_aA := Aside0.mk e_to_aA
 clear e_to_aA
 have He_spec := Aside0.mk e_spec
 clear e_spec
 have He_impl := Aside0.mk e_impl
 clear e_impl
 have He_eq_x0 := Aside0.mk e_eq_x0
 clear e_eq_x0
 have HB := Aside0.mk (Below.refl w.heap.size w)
 go_enter Tryd.func3, Tryd.ntmps3
 go_wp2_with fail
 refine (laws_szAutomaton.calls k _ _ _ _ _ _ _ _ _ _ (Kd.C_below HR0_1.out (below_step HB.out Own.bel)) HC0_1.out (Kd.C_below HR0_2.out (below_step HB.out Own.bel)) HC0_2.out He_sz_aA.out).mono ?_
 rintro e w1 ⟨rfl, hb⟩
 have BK_aA := Aside0.mk (blk_below (g := w.heap.size) (o := .cells #[.int .i64 a0_0, .slice A0_1 l0_1.length c0_1, .slice A0_2 l0_2.length c0_2] 25 (0, 0)) (by (repeat (first | with_reducible refine blk_drewN ?_ _ | with_reducible refine blk_drew ?_)); exact (blk_new _ _)) hb)
 have HG_BK_aA : Aside0 (w.heap.size < w1.heap.size) := ⟨blk_lt BK_aA.out⟩
 have HW := Aside0.mk (below_step (w := w) Own.bel hb)
 have HZ1 : Aside0 (w.heap.size ≤ w1.heap.size) := ⟨HW.out.size⟩
 replace HB := Aside0.mk (below_step HB.out HW.out)
 clear hb HW
 have czBK_aA_0 : w1.cell? ⟨w.heap.size, 0, none⟩ = some (.int .i64 a0_0) := (blk_cell BK_aA.out 0).trans rfl
 have czBK_aA_1 : w1.cell? ⟨w.heap.size, 1, none⟩ = some (.slice A0_1 l0_1.length c0_1) := (blk_cell BK_aA.out 1).trans rfl
 have czBK_aA_2 : w1.cell? ⟨w.heap.size, 2, none⟩ = some (.slice A0_2 l0_2.length c0_2) := (blk_cell BK_aA.out 2).trans rfl
 go_wp2_with fail
 refine (laws_toAutomaton.calls k _ _ _ _ _ _ _ _ _ _ _ (Kd.C_below HR0_1.out (below_step HB.out Own.bel)) HC0_1.out (Kd.C_below HR0_2.out (below_step HB.out Own.bel)) HC0_2.out He_to_aA.out).mono ?_
 rintro e w2 ⟨vt14_0, vt14_1, rfl, hf1, hf2, hb⟩
 clear czBK_aA_0 czBK_aA_1 czBK_aA_2
 have HN := Aside0.mk HB.out.size
 have HW := Aside0.mk (below_step (w := w1) Own.bel hb)
 have HZ2 : Aside0 (w1.heap.size ≤ w2.heap.size) := ⟨HW.out.size⟩
 replace HB := Aside0.mk (below_step HB.out HW.out)
 replace BK_aA := Aside0.mk (blk_below BK_aA.out HW.out)
 obtain ⟨lo1_, F1, HLO1⟩ := Own.S_iv (wN := w1) hf1 HN.out Own.bel hb
 obtain ⟨lo2_, F2, HLO2⟩ := Own.R_iv (wN := w1) rfl hf2 HN.out Own.bel hb
 obtain ⟨A1_, c1_, e1_⟩ := Kd.S_slice F1.out
 subst e1_
 obtain ⟨A2_, c2_, e2_⟩ := Kd.R_slice F2.out
 subst e2_
 clear hb HW HN hf1 hf2
 have czBK_aA_0 : w2.cell? ⟨w.heap.size, 0, none⟩ = some (.int .i64 a0_0) := (blk_cell BK_aA.out 0).trans rfl
 have czBK_aA_1 : w2.cell? ⟨w.heap.size, 1, none⟩ = some (.slice A0_1 l0_1.length c0_1) := (blk_cell BK_aA.out 1).trans rfl
 have czBK_aA_2 : w2.cell? ⟨w.heap.size, 2, none⟩ = some (.slice A0_2 l0_2.length c0_2) := (blk_cell BK_aA.out 2).trans rfl
 go_wp2_with fail
 refine (spec_AutomatonText.calls k _ _ _ _ _ _ _ _ _ _ (Kd.C_below (Kd.S_reads' F1.out).2.2 Own.bel) (Kd.S_reads' F1.out).2.1 (Kd.C_below (Kd.R_reads' F2.out).2.2 Own.bel) (Kd.R_reads' F2.out).2.1 He_spec.out).mono ?_
 rintro e w3 ⟨rfl, hb⟩
 clear czBK_aA_0 czBK_aA_1 czBK_aA_2
 have HN := Aside0.mk HB.out.size
 have HW := Aside0.mk (below_step (w := w2) Own.bel hb)
 have HZ3 : Aside0 (w2.heap.size ≤ w3.heap.size) := ⟨HW.out.size⟩
 replace HB := Aside0.mk (below_step HB.out HW.out)
 replace F1 := Aside0.mk (Kd.S_below F1.out HW.out)
 replace F2 := Aside0.mk (Kd.R_below F2.out HW.out)
 replace BK_aA := Aside0.mk (blk_below BK_aA.out HW.out)
 clear hb HW HN 
 have czBK_aA_0 : w3.cell? ⟨w.heap.size, 0, none⟩ = some (.int .i64 a0_0) := (blk_cell BK_aA.out 0).trans rfl
 have czBK_aA_1 : w3.cell? ⟨w.heap.size, 1, none⟩ = some (.slice A0_1 l0_1.length c0_1) := (blk_cell BK_aA.out 1).trans rfl
 have czBK_aA_2 : w3.cell? ⟨w.heap.size, 2, none⟩ = some (.slice A0_2 l0_2.length c0_2) := (blk_cell BK_aA.out 2).trans rfl
 go_wp2_with fail
 refine (laws_toAutomaton.calls k _ _ _ _ _ _ _ _ _ _ _ (Kd.C_below HR0_1.out (below_step HB.out Own.bel)) HC0_1.out (Kd.C_below HR0_2.out (below_step HB.out Own.bel)) HC0_2.out He_to_aA.out).mono ?_
 rintro e w4 ⟨vx0_0, vx0_1, rfl, hf3, hf4, hb⟩
 clear czBK_aA_0 czBK_aA_1 czBK_aA_2
 have HN := Aside0.mk HB.out.size
 have HW := Aside0.mk (below_step (w := w3) Own.bel hb)
 have HZ4 : Aside0 (w3.heap.size ≤ w4.heap.size) := ⟨HW.out.size⟩
 replace HB := Aside0.mk (below_step HB.out HW.out)
 replace F1 := Aside0.mk (Kd.S_below F1.out HW.out)
 replace F2 := Aside0.mk (Kd.R_below F2.out HW.out)
 replace BK_aA := Aside0.mk (blk_below BK_aA.out HW.out)
 obtain ⟨lo3_, F3, HLO3⟩ := Own.S_iv (wN := w3) hf3 HN.out Own.bel hb
 obtain ⟨lo4_, F4, HLO4⟩ := Own.R_iv (wN := w3) rfl hf4 HN.out Own.bel hb
 obtain ⟨A3_, c3_, e3_⟩ := Kd.S_slice F3.out
 subst e3_
 obtain ⟨A4_, c4_, e4_⟩ := Kd.R_slice F4.out
 subst e4_
 clear hb HW HN hf3 hf4
 have czBK_aA_0 : (w4.alloc (.cells #[.int .i64 a0_0, .slice A3_ l0_1.length c3_, .slice A4_ l0_2.length c4_] 29)).cell? ⟨w.heap.size, 0, none⟩ = some (.int .i64 a0_0) := (blk_cell (blk_alloc BK_aA.out _) 0).trans rfl
 have czBK_aA_1 : (w4.alloc (.cells #[.int .i64 a0_0, .slice A3_ l0_1.length c3_, .slice A4_ l0_2.length c4_] 29)).cell? ⟨w.heap.size, 1, none⟩ = some (.slice A0_1 l0_1.length c0_1) := (blk_cell (blk_alloc BK_aA.out _) 1).trans rfl
 have czBK_aA_2 : (w4.alloc (.cells #[.int .i64 a0_0, .slice A3_ l0_1.length c3_, .slice A4_ l0_2.length c4_] 29)).cell? ⟨w.heap.size, 2, none⟩ = some (.slice A0_2 l0_2.length c0_2) := (blk_cell (blk_alloc BK_aA.out _) 2).trans rfl
 go_wp2_with fail
 refine (impl_AutomatonText.calls k _ _ _ _ _ _ _ _ _ _ (Kd.C_below (Kd.S_reads' F3.out).2.2 Own.bel) (Kd.S_reads' F3.out).2.1 (Kd.C_below (Kd.R_reads' F4.out).2.2 Own.bel) (Kd.R_reads' F4.out).2.1 He_impl.out).mono ?_
 rintro e w5 ⟨rfl, hb⟩
 clear czBK_aA_0 czBK_aA_1 czBK_aA_2
 have HN := Aside0.mk HB.out.size
 have BK_x0 := Aside0.mk (blk_below (g := w4.heap.size) (o := .cells #[.int .i64 a0_0, .slice A3_ l0_1.length c3_, .slice A4_ l0_2.length c4_] 29 (0, 0)) (by (repeat (first | with_reducible refine blk_drewN ?_ _ | with_reducible refine blk_drew ?_)); exact (blk_new _ _)) hb)
 have HG_BK_x0 : Aside0 (w4.heap.size < w5.heap.size) := ⟨blk_lt BK_x0.out⟩
 have HW := Aside0.mk (below_step (w := w4) Own.bel hb)
 have HZ5 : Aside0 (w4.heap.size ≤ w5.heap.size) := ⟨HW.out.size⟩
 replace HB := Aside0.mk (below_step HB.out HW.out)
 replace F1 := Aside0.mk (Kd.S_below F1.out HW.out)
 replace F2 := Aside0.mk (Kd.R_below F2.out HW.out)
 replace F3 := Aside0.mk (Kd.S_below F3.out HW.out)
 replace F4 := Aside0.mk (Kd.R_below F4.out HW.out)
 replace BK_aA := Aside0.mk (blk_below BK_aA.out HW.out)
 clear hb HW HN 
 have czBK_aA_0 : w5.cell? ⟨w.heap.size, 0, none⟩ = some (.int .i64 a0_0) := (blk_cell BK_aA.out 0).trans rfl
 have czBK_aA_1 : w5.cell? ⟨w.heap.size, 1, none⟩ = some (.slice A0_1 l0_1.length c0_1) := (blk_cell BK_aA.out 1).trans rfl
 have czBK_aA_2 : w5.cell? ⟨w.heap.size, 2, none⟩ = some (.slice A0_2 l0_2.length c0_2) := (blk_cell BK_aA.out 2).trans rfl
 have czBK_x0_0 : w5.cell? ⟨w4.heap.size, 0, none⟩ = some (.int .i64 a0_0) := (blk_cell BK_x0.out 0).trans rfl
 have czBK_x0_1 : w5.cell? ⟨w4.heap.size, 1, none⟩ = some (.slice A3_ l0_1.length c3_) := (blk_cell BK_x0.out 1).trans rfl
 have czBK_x0_2 : w5.cell? ⟨w4.heap.size, 2, none⟩ = some (.slice A4_ l0_2.length c4_) := (blk_cell BK_x0.out 2).trans rfl
 go_wp2_with fail
 refine start_ (n := 5) (S := fun w' => w'.cell? ⟨w4.heap.size, 0, none⟩ = some (.int .i64 a0_0) ∧ w'.cell? ⟨w4.heap.size, 1, none⟩ = some (.slice A3_ l0_1.length c3_) ∧ w'.cell? ⟨w4.heap.size, 2, none⟩ = some (.slice A4_ l0_2.length c4_) ∧ w'.cell? ⟨w.heap.size, 0, none⟩ = some (.int .i64 a0_0) ∧ w'.cell? ⟨w.heap.size, 1, none⟩ = some (.slice A0_1 l0_1.length c0_1) ∧ w'.cell? ⟨w.heap.size, 2, none⟩ = some (.slice A0_2 l0_2.length c0_2)) (ds := []) #[false,false,false,false,false] (by kernel_rfl) rfl rfl ⟨(blk_cell BK_x0.out 0).trans rfl, (blk_cell BK_x0.out 1).trans rfl, (blk_cell BK_x0.out 2).trans rfl, (blk_cell BK_aA.out 0).trans rfl, (blk_cell BK_aA.out 1).trans rfl, (blk_cell BK_aA.out 2).trans rfl⟩ (fun hHeld => ?_)
 refine Own.anew_ (wN := w5) Own.bel hHeld (fun w6 hb hHeld => ?_)
 clear czBK_aA_0 czBK_aA_1 czBK_aA_2 czBK_x0_0 czBK_x0_1 czBK_x0_2
 have HW := Aside0.mk hb
 have HZ6 : Aside0 (w5.heap.size ≤ w6.heap.size) := ⟨HW.out.size⟩
 replace HB := Aside0.mk (below_step HB.out HW.out)
 replace F1 := Aside0.mk (Kd.S_below F1.out HW.out)
 replace F2 := Aside0.mk (Kd.R_below F2.out HW.out)
 replace F3 := Aside0.mk (Kd.S_below F3.out HW.out)
 replace F4 := Aside0.mk (Kd.R_below F4.out HW.out)
 replace BK_aA := Aside0.mk (blk_below BK_aA.out HW.out)
 replace BK_x0 := Aside0.mk (blk_below BK_x0.out HW.out)
 clear hb HW
 refine Own.tk_ (i := 0) (N := some 35) #[true,false,false,false,false] hHeld ?_
 refine Own.tk_ (i := 1) (N := some 36) #[true,true,false,false,false] hHeld ?_
 refine one_ (i := 2) (N := some 37) #[true,true,true,false,false] rfl rfl (by kernel_rfl) (by decide) (fun K hK => ?_)
 refine goes_ Tryd.func8 (by kernel_rfl) rfl #[.agg #[.int .i64 a0_0, .slice A0_1 l0_1.length c0_1, .slice A0_2 l0_2.length c0_2]] (by rfl) rfl rfl Own.mapd ?_
 with_reducible refine (laws_toAutomaton.calls k _ _ _ _ _ _ _ _ _ _ _ (Kd.C_below HR0_1.out (below_step HB.out Own.bel)) HC0_1.out (Kd.C_below HR0_2.out (below_step HB.out Own.bel)) HC0_2.out He_to_aA.out).mono ?_
 rintro e w7 ⟨vq6_0, vq6_1, rfl, hf5, hf6, hb⟩
 refine ⟨_, rfl, ?_⟩
 have HN := Aside0.mk HB.out.size
 have HW := Aside0.mk (below_step (w := w6) Own.bel hb)
 have HZ7 : Aside0 (w6.heap.size ≤ w7.heap.size) := ⟨HW.out.size⟩
 replace HB := Aside0.mk (below_step HB.out HW.out)
 replace F1 := Aside0.mk (Kd.S_below F1.out HW.out)
 replace F2 := Aside0.mk (Kd.R_below F2.out HW.out)
 replace F3 := Aside0.mk (Kd.S_below F3.out HW.out)
 replace F4 := Aside0.mk (Kd.R_below F4.out HW.out)
 replace BK_aA := Aside0.mk (blk_below BK_aA.out HW.out)
 replace BK_x0 := Aside0.mk (blk_below BK_x0.out HW.out)
 obtain ⟨lo5_, F5, HLO5⟩ := Own.S_iv (wN := w6) hf5 HN.out Own.bel hb
 obtain ⟨lo6_, F6, HLO6⟩ := Own.R_iv (wN := w6) rfl hf6 HN.out Own.bel hb
 obtain ⟨A5_, c5_, e5_⟩ := Kd.S_slice F5.out
 subst e5_
 obtain ⟨A6_, c6_, e6_⟩ := Kd.R_slice F6.out
 subst e6_
 clear hb HW HN hf5 hf6
 refine hK.out _ _ ⟨(blk_cell BK_x0.out 0).trans rfl, (blk_cell BK_x0.out 1).trans rfl, (blk_cell BK_x0.out 2).trans rfl, (blk_cell BK_aA.out 0).trans rfl, (blk_cell BK_aA.out 1).trans rfl, (blk_cell BK_aA.out 2).trans rfl⟩ (fun hHeld => ?_)
 clear hK K
 refine Own.nm_ (some 37) ?_
 refine one_ (i := 3) (N := some 38) #[true,true,true,true,false] rfl rfl (by kernel_rfl) (by decide) (fun K hK => ?_)
 refine goes_ Tryd.func10 (by kernel_rfl) rfl #[.agg #[.int .i64 a0_0, .slice A3_ l0_1.length c3_, .slice A4_ l0_2.length c4_], .agg #[.int .i64 a0_0, .slice A5_ l0_1.length c5_, .slice A6_ l0_2.length c6_]] (by rfl) rfl rfl Own.mapd ?_
 with_reducible refine (laws_eqAutomaton.calls k _ _ _ _ _ _ _ _ _ _ _ _ _ _ _ _ (Kd.C_below (Kd.S_reads' F3.out).2.2 Own.bel) (Kd.S_reads' F3.out).2.1 (Kd.C_below (Kd.R_reads' F4.out).2.2 Own.bel) (Kd.R_reads' F4.out).2.1 (Kd.C_below (Kd.S_reads' F5.out).2.2 Own.bel) (Kd.S_reads' F5.out).2.1 (Kd.C_below (Kd.R_reads' F6.out).2.2 Own.bel) (Kd.R_reads' F6.out).2.1 He_eq_x0.out).mono ?_
 rintro e w8 ⟨rfl, hb⟩
 refine ⟨_, rfl, ?_⟩
 have HW := Aside0.mk (below_step (w := w7) Own.bel hb)
 have HZ8 : Aside0 (w7.heap.size ≤ w8.heap.size) := ⟨HW.out.size⟩
 replace HB := Aside0.mk (below_step HB.out HW.out)
 replace F1 := Aside0.mk (Kd.S_below F1.out HW.out)
 replace F2 := Aside0.mk (Kd.R_below F2.out HW.out)
 replace F3 := Aside0.mk (Kd.S_below F3.out HW.out)
 replace F4 := Aside0.mk (Kd.R_below F4.out HW.out)
 replace BK_aA := Aside0.mk (blk_below BK_aA.out HW.out)
 replace BK_x0 := Aside0.mk (blk_below BK_x0.out HW.out)
 clear hb HW
 refine hK.out _ _ ⟨(blk_cell BK_x0.out 0).trans rfl, (blk_cell BK_x0.out 1).trans rfl, (blk_cell BK_x0.out 2).trans rfl, (blk_cell BK_aA.out 0).trans rfl, (blk_cell BK_aA.out 1).trans rfl, (blk_cell BK_aA.out 2).trans rfl⟩ (fun hHeld => ?_)
 clear hK K
 refine Own.nm_ (some 38) ?_
 refine Own.pu_ (i := 4) (N := some 39) #[true,true,true,true,true] ?_
 refine done_ (by kernel_rfl) ?_
 clear hHeld
 have czBK_aA_0 : w8.cell? ⟨w.heap.size, 0, none⟩ = some (.int .i64 a0_0) := (blk_cell BK_aA.out 0).trans rfl
 have czBK_aA_1 : w8.cell? ⟨w.heap.size, 1, none⟩ = some (.slice A0_1 l0_1.length c0_1) := (blk_cell BK_aA.out 1).trans rfl
 have czBK_aA_2 : w8.cell? ⟨w.heap.size, 2, none⟩ = some (.slice A0_2 l0_2.length c0_2) := (blk_cell BK_aA.out 2).trans rfl
 have czBK_x0_0 : w8.cell? ⟨w4.heap.size, 0, none⟩ = some (.int .i64 a0_0) := (blk_cell BK_x0.out 0).trans rfl
 have czBK_x0_1 : w8.cell? ⟨w4.heap.size, 1, none⟩ = some (.slice A3_ l0_1.length c3_) := (blk_cell BK_x0.out 1).trans rfl
 have czBK_x0_2 : w8.cell? ⟨w4.heap.size, 2, none⟩ = some (.slice A4_ l0_2.length c4_) := (blk_cell BK_x0.out 2).trans rfl
 go_wp2_with fail
 go_ret
 exact ⟨rfl, below_step HB.out Own.bel⟩
end Go.Proofs.YtkfedkckakegjaaDoor.P
end

section
/- FnExactAutomatonText: the program's AutomatonText returns what the reference's returns, for all automata that are not greater than 2^20 numbers (as the law's own guard says). -/
namespace Go.Proofs.YtkfedkckakegjaaDoor.A
open Go.RowKit YtkfedkckakegjaaDoorW.PrintWords YtkfedkckakegjaaDoorW.PrintLast YtkfedkckakegjaaDoorW.PrintMore P T
set_option linter.unusedVariables false
set_option linter.unusedSimpArgs false

theorem specTx (L : Int) (N : List (List Int)) (F : List Int) (hN : N.length ≤ maxLen) (hr : ∀ x ∈ N, x.length ≤ maxLen) (hF : F.length ≤ maxLen) : Ev (fun k => spec_AutomatonText.f k L N F) (resTx L N F) := by
 unfold spec_AutomatonText.f resTx
 refine ev_bind (auGood L N F hN hr hF) ?_
 by_cases h : AuOk L N F
 ·rw [if_pos h]
  refine ev_pos (decide_eq_true h) (ev_bind (a := auGoS F N 0 ⟨#[]⟩) ⟨0, fun k _ => by show spec_auText.f k L N F = _; unfold spec_auText.f; exact if_pos ⟨h, hF⟩⟩ (ev_const ?_))
  rw [auGo_eq F N 0 ⟨#[]⟩ (fun r hr_ e => by have := (h.row r hr_).1; rw [e] at this; simp at this)]
 ·rw [if_neg h]
  exact ev_neg (by simpa using h) (ev_const rfl)
theorem lawFnExactAutomatonText (L : Int) (A1 : Option Addr) (c1 : Nat) (N : List (List Int)) (A2 : Option Addr) (c2 : Nat) (F : List Int) (w : World) (h1 : Kd.C (Kd.slice 3 (Kd.int .i64)) w A1 N.length N) (hc1 : N.length ≤ c1) (h2 : Kd.C (Kd.int .i64) w A2 F.length F) (hc2 : F.length ≤ c2)
  (hN : N.length ≤ maxLen) (hr : ∀ x ∈ N, x.length ≤ maxLen) (hF : F.length ≤ maxLen) :
  Calls Tryd.prog 3 #[.agg #[.int .i64 L, .slice A1 N.length c1, .slice A2 F.length c2]] w fun e w' => e = .returned (.bool true) ∧ Below w.heap.size w w' := by
 obtain ⟨s, ⟨K0, e0⟩, hsm⟩ := szAu L N F hN hr hF
 by_cases hs : s < 0
 ·exact FnExactAutomatonText_small0 K0 L A1 c1 N A2 c2 F s w h1 hc1 h2 hc2 (e0 K0 (Nat.le_refl _)) hs
 obtain ⟨_, g1, g2, g3⟩ := hsm (by omega)
 obtain ⟨K1, e1⟩ := toAu L N F g1 g2 g3
 obtain ⟨K2, e2⟩ := specTx L N F hN hr hF
 have e3 : ∀ k, impl_AutomatonText.f k L N F = some (resTx L N F) := fun k => by unfold impl_AutomatonText.f; exact if_pos ⟨hN, hr, hF⟩
 obtain ⟨⟨t0, t1⟩, ht⟩ : ∃ t, t = resTx L N F := ⟨_, rfl⟩
 rw [← ht] at e2 e3
 obtain ⟨K5, e5⟩ := eqAu L N F hN hr hF
 exact FnExactAutomatonText_walk (K0 + K1 + K2 + K5) L A1 c1 N A2 c2 F s t0 t1 w h1 hc1 h2 hc2 (e0 _ (by omega)) (by omega) (e1 _ (by omega)) (e2 _ (by omega)) (e3 _) (e5 _ (by omega))
end Go.Proofs.YtkfedkckakegjaaDoor.A
end

section
/- Opens an argument that a row reads as data into the cells and lists that a contract speaks of: whole numbers, slices, structs of two and three fields. -/
namespace Go.Proofs.YtkfedkckakegjaaDoor.Op
open Go.ChangeShapes Go.WideShapes Go.Deep Go.RowKit YtkfedkckakegjaaDoorW.PrintWords
set_option linter.unusedVariables false

/-- What reads as data of type t is of kind d, and meets wf. -/
def Opens (P : Program) (t : TypeId) {α : Type} (d : Kd α) (wf : α → Prop) : Prop :=
 ∀ {H : Type} {enc : TypeId × Value → H} {w : World} {base : Nat} {spare : Nat → Bool} {held : Bool} {fuel : Nat} {cs : List Value} {x : DataW H × List MemPlace},
  DataW.trod enc P w base spare held fuel t cs = some x → ∃ a, d.K w a cs ∧ wf a

def WNum (k : IntKind) (n : Int) : Prop := (Lit.int k n).wf = true
abbrev WInt : Int → Prop := WNum .i64
def WList {α : Type} (wf : α → Prop) (l : List α) : Prop := l.length ≤ maxLen ∧ ∀ a ∈ l, wf a

theorem opens_int {P : Program} {t : TypeId} {k : IntKind} (h : P.underlying t = some (.int k)) : Opens P t (Kd.int k) (WNum k) := by
 intro H enc w base spare held fuel cs x ht
 obtain ⟨n, rfl, _, hw⟩ := DataW.trod_int h ht
 exact ⟨n, rfl, hw⟩

theorem opens_slice {P : Program} {t e : TypeId} {α : Type} {d : Kd α} {wf : α → Prop} (q : Nat) (h : P.underlying t = some (.slice e)) (hc : P.cellsOf e = d.sz) (o : Opens P e d wf) :
  Opens P t (Kd.slice q d) (WList wf) := by
 intro H enc w base spare held fuel cs x ht
 rcases open_slice h ht with ⟨rfl, _⟩ | ⟨a, len, cap, m, n, D, Pl, rfl, hb, hl, hm, hmm, hx, hi⟩
 ·exact ⟨[], ⟨none, 0, rfl, Nat.le_refl _, rfl, by simp, fun hn => by simp at hn⟩, by simp [WList]⟩
 ·have hlm : len ≤ m := by rw [hmm]; split <;> omega
  have each : ∀ i, i < len → ∃ y cs', w.cells? base (a.add (i * d.sz)) d.sz = some cs' ∧ d.K w y cs' ∧ wf y := by
   intro i hil
   obtain ⟨cs', h1, h2⟩ := hi i (by omega)
   obtain ⟨y, hk, hw⟩ := o h2
   rw [hc] at h1
   exact ⟨y, cs', h1, hk, hw⟩
  have build : ∀ k, k ≤ len → ∃ ys : List α, ys.length = k ∧ (∀ y ∈ ys, wf y) ∧ ∀ j y, ys[j]? = some y → ∃ c, c.length = d.sz ∧ d.K w y c ∧ ∀ i u, c[i]? = some u → w.cell? (a.add (j * d.sz + i)) = some u := by
   intro k
   induction k with
   | zero => exact fun _ => ⟨[], rfl, by simp, by simp⟩
   | succ k ih =>
    intro hk
    obtain ⟨ys, hlen, hwf, hys⟩ := ih (by omega)
    obtain ⟨y, cs', h1, h2, h3⟩ := each k (by omega)
    obtain ⟨_, hcl, hat⟩ := World.cells?_some h1
    refine ⟨ys ++ [y], by simp [hlen], ?_, ?_⟩
    ·intro z hz
     rcases List.mem_append.1 hz with hz | hz
     ·exact hwf z hz
     ·rw [List.mem_singleton.1 hz]; exact h3
    ·intro j z hj
     by_cases hjk : j < k
     ·rw [List.getElem?_append_left (by omega)] at hj
      exact hys j z hj
     ·have hjl : j < (ys ++ [y]).length := (List.getElem?_eq_some_iff.1 hj).1
      simp only [List.length_append, List.length_singleton, hlen] at hjl
      obtain rfl : j = k := by omega
      rw [List.getElem?_append_right (by omega), hlen, Nat.sub_self] at hj
      obtain rfl : y = z := by simpa using hj
      refine ⟨cs', hcl, h2, fun i u hu => ?_⟩
      have hil : i < d.sz := by
       have := (List.getElem?_eq_some_iff.1 hu).1
       omega
      have := hat i hil
      rw [Go.Deep.add_add] at this
      rw [this, hu]
  obtain ⟨ys, hlen, hwf, hys⟩ := build len (Nat.le_refl _)
  have hmx : len ≤ maxLen := by omega
  exact ⟨ys, ⟨some a, cap, by rw [hlen], by rw [hlen]; exact hl, rfl, by rw [hlen]; exact hmx, fun _ => ⟨a, rfl, hys⟩⟩, by rw [hlen]; exact hmx, hwf⟩

theorem opens_iso {P : Program} {t : TypeId} {α β : Type} {d : Kd α} {wf : α → Prop} (f : β → α) (g : α → β) (hg : ∀ a, f (g a) = a) (o : Opens P t d wf) : Opens P t (Kd.iso d f) (fun b => wf (f b)) := by
 intro H enc w base spare held fuel cs x ht
 obtain ⟨a, h1, h2⟩ := o ht
 exact ⟨g a, by show d.K w (f (g a)) cs; rw [hg]; exact h1, by show wf (f (g a)); rw [hg]; exact h2⟩

theorem opens_two {P : Program} {t : TypeId} {f0 f1 : Field} {α β : Type} {a : Kd α} {b : Kd β} {wa : α → Prop} {wb : β → Prop}
  (h : P.underlying t = some (.struct #[f0, f1])) (hc : P.cellsOf t = a.sz + b.sz) (o0 : f0.offset = 0) (o1 : f1.offset = a.sz) (c0 : P.cellsOf f0.type = a.sz) (c1 : P.cellsOf f1.type = b.sz)
  (oa : Opens P f0.type a wa) (ob : Opens P f1.type b wb) : Opens P t (Kd.pair a b) (fun x => wa x.1 ∧ wb x.2) := by
 intro H enc w base spare held fuel cs x ht
 obtain ⟨xs, n, _, _, hlen, hxl, hf⟩ := DataW.trod_struct h ht
 have hx2 : xs.length = 2 := hxl
 have h0 := hf 0 f0 rfl
 have h1 := hf 1 f1 rfl
 rw [List.getElem?_eq_getElem (by omega)] at h0 h1
 obtain ⟨y0, k0, w0⟩ := oa h0
 obtain ⟨y1, k1, w1⟩ := ob h1
 refine ⟨(y0, y1), ⟨_, _, ?_, k0, k1⟩, w0, w1⟩
 rw [hc] at hlen
 rw [o0, o1, c0, c1, List.drop_zero]
 rw [List.take_of_length_le (l := cs.drop a.sz) (by simp; omega), List.take_append_drop]

theorem opens_three {P : Program} {t : TypeId} {f0 f1 f2 : Field} {α β γ : Type} {a : Kd α} {b : Kd β} {c : Kd γ} {wa : α → Prop} {wb : β → Prop} {wc : γ → Prop}
  (h : P.underlying t = some (.struct #[f0, f1, f2])) (hc : P.cellsOf t = a.sz + (b.sz + c.sz)) (o0 : f0.offset = 0) (o1 : f1.offset = a.sz) (o2 : f2.offset = a.sz + b.sz) (c0 : P.cellsOf f0.type = a.sz) (c1 : P.cellsOf f1.type = b.sz) (c2 : P.cellsOf f2.type = c.sz)
  (oa : Opens P f0.type a wa) (ob : Opens P f1.type b wb) (oc : Opens P f2.type c wc) : Opens P t (Kd.pair a (Kd.pair b c)) (fun x => wa x.1 ∧ wb x.2.1 ∧ wc x.2.2) := by
 intro H enc w base spare held fuel cs x ht
 obtain ⟨xs, n, _, _, hlen, hxl, hf⟩ := DataW.trod_struct h ht
 have hx2 : xs.length = 3 := hxl
 have h0 := hf 0 f0 rfl
 have h1 := hf 1 f1 rfl
 have h2 := hf 2 f2 rfl
 rw [List.getElem?_eq_getElem (by omega)] at h0 h1 h2
 obtain ⟨y0, k0, w0⟩ := oa h0
 obtain ⟨y1, k1, w1⟩ := ob h1
 obtain ⟨y2, k2, w2⟩ := oc h2
 rw [hc] at hlen
 refine ⟨(y0, y1, y2), ⟨_, cs.drop a.sz, ?_, k0, ⟨_, _, ?_, k1, k2⟩⟩, w0, w1, w2⟩
 ·rw [o0, c0, List.drop_zero, List.take_append_drop]
 ·rw [o1, o2, c1, c2]
  rw [List.take_of_length_le (l := cs.drop (a.sz + b.sz)) (by simp; omega), ← List.drop_drop, List.take_append_drop]

/-- A slice among the arguments. -/
theorem open_arg_slice {P : Program} {t : TypeId} {α : Type} {d : Kd α} {wf : α → Prop} {q : Nat} (o : Opens P t (Kd.slice q d) (WList wf)) {H : Type} {enc : TypeId × Value → H} {w : World} {base : Nat} {spare : Nat → Bool} {held : Bool}
  {A : Option Addr} {len cap : Nat} {D : DataW H} {ps : List MemPlace} (h : DataW.Trod enc P w base spare held t (.slice A len cap) D ps) :
  ∃ l : List α, len = l.length ∧ l.length ≤ cap ∧ d.C w A l.length l ∧ WList wf l := by
 obtain ⟨fuel, hf⟩ := h
 obtain ⟨l, ⟨A', c, he, hl, hC⟩, hw⟩ := o hf
 simp only [Value.cells, List.cons.injEq, Value.slice.injEq, and_true] at he
 obtain ⟨rfl, rfl, rfl⟩ := he
 exact ⟨l, rfl, hl, hC, hw⟩
end Go.Proofs.YtkfedkckakegjaaDoor.Op
end

section
/- FnExactAutomatonText: the program's AutomatonText returns what the reference's returns, for all automata that are not greater than 2^20 numbers (as the law's own guard says): the row, and its tied card. -/
namespace Go.Proofs.YtkfedkckakegjaaDoor.fnExactAutomatonText
open Go.ChangeShapes Go.WideShapes Go.ChangeAt Go.RowKit
open Go.ChangeMaps (open_string shut_string)
open Go.Proofs.YtkfedkckakegjaaDoor.Op
set_option linter.unusedVariables false
set_option maxRecDepth 100000
theorem own : ownKnob Tryd.prog.godebug = none := by kernel_rfl
theorem laidOut : laidOutB Tryd.prog = true := by kernel_rfl
theorem ty3 : Opens Tryd.prog 3 (Go.Proofs.YtkfedkckakegjaaDoorW.PrintWords.Kd.int .i64) (WNum .i64) := opens_int Tryd.underlying3
theorem ty23 : Opens Tryd.prog 23 (Go.Proofs.YtkfedkckakegjaaDoorW.PrintWords.Kd.slice 3 (Go.Proofs.YtkfedkckakegjaaDoorW.PrintWords.Kd.int .i64)) (WList (WNum .i64)) := opens_slice 3 Tryd.underlying23 (by kernel_rfl) ty3
theorem ty22 : Opens Tryd.prog 22 (Go.Proofs.YtkfedkckakegjaaDoorW.PrintWords.Kd.slice 23 (Go.Proofs.YtkfedkckakegjaaDoorW.PrintWords.Kd.slice 3 (Go.Proofs.YtkfedkckakegjaaDoorW.PrintWords.Kd.int .i64))) (WList (WList (WNum .i64))) := opens_slice 23 Tryd.underlying22 (by kernel_rfl) ty23
theorem tw25 : Opens Tryd.prog 25 (Go.Proofs.YtkfedkckakegjaaDoorW.PrintWords.Kd.pair (Go.Proofs.YtkfedkckakegjaaDoorW.PrintWords.Kd.int .i64) (Go.Proofs.YtkfedkckakegjaaDoorW.PrintWords.Kd.pair (Go.Proofs.YtkfedkckakegjaaDoorW.PrintWords.Kd.slice 23 (Go.Proofs.YtkfedkckakegjaaDoorW.PrintWords.Kd.slice 3 (Go.Proofs.YtkfedkckakegjaaDoorW.PrintWords.Kd.int .i64))) (Go.Proofs.YtkfedkckakegjaaDoorW.PrintWords.Kd.slice 3 (Go.Proofs.YtkfedkckakegjaaDoorW.PrintWords.Kd.int .i64)))) (fun x : Int × (List (List Int)) × (List Int) => (WNum .i64) x.1 ∧ (WList (WList (WNum .i64))) x.2.1 ∧ (WList (WNum .i64)) x.2.2) := opens_three Tryd.underlying25 (by kernel_rfl) (by kernel_rfl) (by kernel_rfl) (by kernel_rfl) (by kernel_rfl) (by kernel_rfl) (by kernel_rfl) ty3 ty22 ty23
abbrev laidV := Rows.fnExactAutomatonTextRow.laid
set_option maxRecDepth 100000 in
theorem laid_met (os : Os) (args : Array Value) : laidMet Tryd.prog laidV ((World.laidAll Tryd.prog os laidV).forCall (fun _ _ => 0) ⟨#[], args, []⟩).memory :=
  laidMet_laidAll _ (by kernel_rfl) (by kernel_rfl)
set_option maxRecDepth 100000 in
theorem lifted (os : Os) (started : os.Started) (H : Type) (enc : TypeId × Value → H) :
    ReturnsInHanded {} Tryd.checked os 3 .any (fun w args => (Rows.fnExactAutomatonTextSpec.pre enc Tryd.prog Tryd.f3 Rows.fnExactAutomatonTextRow.domain false w args ∧ laidMet Tryd.prog laidV w) ∧ sizedMet enc Tryd.prog Tryd.f3 (OpenSpec.ofChange Rows.fnExactAutomatonTextSpec) false w args)
      (Rows.fnExactAutomatonTextSpec.post enc Tryd.prog Tryd.f3 false true false false) := by
  refine returnsInHanded_of_change_and (C := Tryd.checked) (X := fun w _ => laidMet Tryd.prog laidV w) (fun _ _ _ hh h => h.of_heap hh) own started (by kernel_rfl) Tryd.func3
    (ChangeSpec.witness_shaped (enc := enc) (C := Tryd.checked) (os := os) (X := fun w _ => laidMet Tryd.prog laidV w) false (World.laidAll Tryd.prog os laidV) #[.agg #[.int .i64 0, .slice none 0 0, .slice none 0 0]] 8 (World.laidAll_os _ _ _) (World.shaped_of_ZipB (by kernel_rfl) (by kernel_rfl)) (by kernel_rfl) (by kernel_rfl) (by kernel_rfl) (laid_met os _)) ?_
  intro W base args ds gs before hval0 hW hcnd0 _ hL _
  have hval : ∀ (j : Nat) t v, Tryd.f3.params[j]? = some t → args[j]? = some v → Value.okWide Tryd.prog W .any base t v := hval0
  have hW' := hW
  obtain ⟨p, q, hA0, hV, rfl, hfz, hnd⟩ := hW
  have hA : DataW.TrodAll enc Tryd.prog W 0 (fun _ => true) true Tryd.f3.params.toList args.toList ds p := hA0
  rw [Tryd.params3] at hA hval
  obtain ⟨v0, vs0, d0, ds0, p0, q0, hargs, rfl, rfl, h0, r0⟩ := trodAll_cons hA
  obtain ⟨rfl, rfl, rfl⟩ := trodAll_nil r0
  obtain rfl : args = #[v0] := by cases args; simp_all
  obtain ⟨rfl, rfl⟩ := trodVars_none hV
  have k0 := h0
  have lt0 : ∀ x ∈ p0, x.block < W.heap.size := by obtain ⟨m, hm⟩ := k0; exact DataW.trod_lt m _ _ _ hm
  obtain ⟨cs0, rfl, _⟩ := okWide_struct Tryd.underlying25 (hval 0 25 v0 rfl rfl)
  obtain ⟨csl0⟩ := cs0
  obtain ⟨fu0, hf0⟩ := h0
  obtain ⟨⟨a0_0, l0_1, l0_2⟩, ⟨x0_0, xr0, ex0, e0_0, ⟨x0_1, x0_2, er0, ⟨A0_1, c0_1, e0_1, hc0_1, hC0_1⟩, ⟨A0_2, c0_2, e0_2, hc0_2, hC0_2⟩⟩⟩, ⟨w0_0, w0_1, w0_2⟩⟩ := tw25 hf0
  replace e0_0 : x0_0 = [Value.int .i64 a0_0] := e0_0
  replace e0_1 : x0_1 = [Value.slice A0_1 l0_1.length c0_1] := e0_1
  replace hc0_1 : l0_1.length ≤ c0_1 := hc0_1
  replace hC0_1 : Go.Proofs.YtkfedkckakegjaaDoorW.PrintWords.Kd.C (Go.Proofs.YtkfedkckakegjaaDoorW.PrintWords.Kd.slice 3 (Go.Proofs.YtkfedkckakegjaaDoorW.PrintWords.Kd.int .i64)) W A0_1 l0_1.length l0_1 := hC0_1
  replace e0_2 : x0_2 = [Value.slice A0_2 l0_2.length c0_2] := e0_2
  replace hc0_2 : l0_2.length ≤ c0_2 := hc0_2
  replace hC0_2 : Go.Proofs.YtkfedkckakegjaaDoorW.PrintWords.Kd.C (Go.Proofs.YtkfedkckakegjaaDoorW.PrintWords.Kd.int .i64) W A0_2 l0_2.length l0_2 := hC0_2
  replace w0_0 : (WNum .i64) a0_0 := w0_0
  replace w0_1 : (WList (WList (WNum .i64))) l0_1 := w0_1
  replace w0_2 : (WList (WNum .i64)) l0_2 := w0_2
  subst e0_1 e0_2 er0 e0_0 ex0
  clear hA0 hval0
  refine (A.lawFnExactAutomatonText a0_0 A0_1 c0_1 l0_1 A0_2 c0_2 l0_2 W hC0_1 hc0_1 hC0_2 hc0_2 w0_1.1 (fun x hx => (w0_1.2 x hx).1) w0_2.1).mono fun e W' ⟨he, bel⟩ => ?_
  subst he
  exact ⟨_, rfl, _, _, _, [], _, [], hW', trodAll_mk1 (shut_bool Tryd.underlying4 _), (trodAll_cons_mk (Below.trod laidOut (by kernel_rfl) (of_decide_eq_true (by kernel_rfl)) k0 bel lt0) trodAll_mk0), rfl, bel.frame _, fun h => by cases h⟩
theorem over : Rows.fnExactAutomatonTextRow.holds Tryd.pinned (OpenSpec.ofChange Rows.fnExactAutomatonTextSpec) :=
  OpenClaim.holds_of_wide 3 Tryd.f3 rfl rfl rfl rfl rfl rfl rfl ⟨rfl, rfl, rfl, rfl, rfl⟩ rfl rfl rfl rfl rfl (by kernel_rfl) Tryd.func3 (by kernel_rfl)
    (of_decide_eq_true (by kernel_rfl)) (by unfold Func.isWrapper; first | (rw [if_pos (by decide +kernel)]; kernel_rfl) | (rw [if_neg (by decide +kernel)]; exact ⟨rfl, rfl⟩))
    (fun os started H enc _ => lifted os started H enc)
end Go.Proofs.YtkfedkckakegjaaDoor.fnExactAutomatonText
namespace Go.Proofs.YtkfedkckakegjaaDoor
set_option maxRecDepth 100000 in
/-- The tied card. -/
theorem fnExactAutomatonTextCard_holds : Rows.FnExactAutomatonTextCardSaid :=
  Claim7.holds_tied_plain_at .later [] [.data, .data, .data] true _ false fnExactAutomatonText.over (fun _ h => by cases h) (by kernel_rfl) (fun _ h => by cases h)
    fnExactAutomatonText_row_tie rfl ⟨rfl, rfl⟩ (by kernel_rfl) (by decide)
    (fun f fn h1 h2 => by
      obtain rfl : f = 3 := Option.some.inj (h1.symm.trans (by kernel_rfl))
      obtain rfl : fn = Tryd.f3 := Option.some.inj (h2.symm.trans Tryd.func3)
      refine ⟨by kernel_rfl, fun j t hj => ?_⟩
      rw [Tryd.params3] at hj
      match j, hj with
      | 0, hj =>
        obtain rfl : t = 25 := by simpa using hj.symm
        exact (by kernel_rfl : Tryd.pinned.checked.prog.wantsStandIn 25 = false)
      | j + 1, hj => simp at hj)
    (by kernel_rfl)
end Go.Proofs.YtkfedkckakegjaaDoor
end
