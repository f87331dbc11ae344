/- FnExactAreEqual: texts of this claim in one: WalkFnExactAreEqual, LawAreEqual, Op, RowFnExactAreEqual. -/
import Derived.Test.YtadhbepoblllhaaYFnExactAreEqualPx14
import Derived.Test.YtadhbepoblllhaaYFnExactAreEqualPx17
import Derived.Test.YtadhbepoblllhaaYFnExactAreEqualPx25
import Derived.Test.YtadhbepoblllhaaYFnExactAreEqualPx28
import Derived.Test.YtadhbepoblllhaaYFnExactAreEqualPx3
import Derived.Test.YtadhbepoblllhaaOwnW
import Derived.Test.YtadhbepoblllhaaYFnExactAreEqualAEq
import Derived.Deep.Slices
import Derived.ChangeSame
import Derived.ChangeArms
import Derived.Test.YtadhbepoblllhaaWWords
import Derived.Test.YtadhbepoblllhaaRows
import Derived.WalkKit
import Derived.ProofKit
import Derived.OpenShut
import Derived.ShutString
import Derived.ChangeOld
import Derived.Below
import Derived.SizedLaws
section
/- The walk of FnExactAreEqual along the one way on which all its tests succeed, and the short ones where an argument is too great. -/
namespace Go.Proofs.Ytadhbepoblllhaa.P
open Go.RowKit Go.Proofs.YtadhbepoblllhaaW.PrintWords Go.Proofs.YtadhbepoblllhaaW.PrintLast Go.Proofs.YtadhbepoblllhaaW.PrintMore Go.Proofs.Ytadhbepoblllhaa
set_option linter.unusedVariables false
set_option linter.unusedSimpArgs false
set_option maxHeartbeats 4000000 in
set_option maxRecDepth 100000 in
theorem FnExactAreEqual_small0 (k : Nat) (a0_0 : Int) (A0_1 : Option Addr) (c0_1 : Nat) (l0_1 : List (List (Int))) (A0_2 : Option Addr) (c0_2 : Nat) (l0_2 : List (Int)) (a1_0 : Int) (A1_1 : Option Addr) (c1_1 : Nat) (l1_1 : List (List (Int))) (A1_2 : Option Addr) (c1_2 : Nat) (l1_2 : List (Int)) (z_aA : Int) (w : World)
    (hr0_1 : Kd.C (Kd.slice 3 (Kd.int .i64)) w A0_1 l0_1.length l0_1) (hc0_1 : l0_1.length ≤ c0_1)
    (hr0_2 : Kd.C (Kd.int .i64) w A0_2 l0_2.length l0_2) (hc0_2 : l0_2.length ≤ c0_2)
    (hr1_1 : Kd.C (Kd.slice 3 (Kd.int .i64)) w A1_1 l1_1.length l1_1) (hc1_1 : l1_1.length ≤ c1_1)
    (hr1_2 : Kd.C (Kd.int .i64) w A1_2 l1_2.length l1_2) (hc1_2 : l1_2.length ≤ c1_2)
    (e_sz_aA : laws_szAutomaton.f k a0_0 l0_1 l0_2 1048576 = some z_aA)
    (hz_aA : z_aA < 0) :
    Calls Try.prog 3 #[.agg #[.int .i64 a0_0, .slice A0_1 l0_1.length c0_1, .slice A0_2 l0_2.length c0_2], .agg #[.int .i64 a1_0, .slice A1_1 l1_1.length c1_1, .slice A1_2 l1_2.length c1_2]] w fun e w' => e = .returned (.bool true) ∧ Below w.heap.size w w' := by
  have hu29 := Try.underlying29
  have hu25 := Try.underlying25
  have hzb_aA : decide (z_aA < 0) = true := decide_eq_true (by omega)
  have HR0_1 := Aside0.mk hr0_1
  clear hr0_1
  have HC0_1 := Aside0.mk hc0_1
  clear hc0_1
  have HR0_2 := Aside0.mk hr0_2
  clear hr0_2
  have HC0_2 := Aside0.mk hc0_2
  clear hc0_2
  have HR1_1 := Aside0.mk hr1_1
  clear hr1_1
  have HC1_1 := Aside0.mk hc1_1
  clear hc1_1
  have HR1_2 := Aside0.mk hr1_2
  clear hr1_2
  have HC1_2 := Aside0.mk hc1_2
  clear hc1_2
  have He_sz_aA := Aside0.mk e_sz_aA
  clear e_sz_aA
  have HB := Aside0.mk (Below.refl w.heap.size w)
  go_enter Try.func3, Try.ntmps3
  go_wp2_with fail
  refine (laws_szAutomaton.calls k _ _ _ _ _ _ _ _ _ _ (Kd.C_below HR0_1.out (below_step HB.out (by repeat (first | with_reducible exact Below.refl _ _ | with_reducible apply below_alloc | with_reducible refine below_set ?_ (Nat.le_refl _) | with_reducible apply pw_below_drewN | with_reducible apply below_drew1)))) HC0_1.out (Kd.C_below HR0_2.out (below_step HB.out (by repeat (first | with_reducible exact Below.refl _ _ | with_reducible apply below_alloc | with_reducible refine below_set ?_ (Nat.le_refl _) | with_reducible apply pw_below_drewN | with_reducible apply below_drew1)))) HC0_2.out He_sz_aA.out).mono ?_
  rintro e w1 ⟨rfl, hb⟩
  have BK_aA := Aside0.mk (blk_below (g := w.heap.size) (o := .cells #[.int .i64 a0_0, .slice A0_1 l0_1.length c0_1, .slice A0_2 l0_2.length c0_2] 25 (0, 0)) (by (repeat (first | with_reducible refine blk_drewN ?_ _ | with_reducible refine blk_drew ?_)); exact (blk_alloc (blk_new _ _) _)) hb)
  have BK_aB := Aside0.mk (blk_below (g := (w.heap.size + 1)) (o := .cells #[.int .i64 a1_0, .slice A1_1 l1_1.length c1_1, .slice A1_2 l1_2.length c1_2] 25 (0, 0)) (by (repeat (first | with_reducible refine blk_drewN ?_ _ | with_reducible refine blk_drew ?_)); exact (by have h_ := blk_new (w.alloc (.cells #[.int .i64 a0_0, .slice A0_1 l0_1.length c0_1, .slice A0_2 l0_2.length c0_2] 25)) (.cells #[.int .i64 a1_0, .slice A1_1 l1_1.length c1_1, .slice A1_2 l1_2.length c1_2] 25); rw [show (w.alloc (.cells #[.int .i64 a0_0, .slice A0_1 l0_1.length c0_1, .slice A0_2 l0_2.length c0_2] 25)).heap.size = w.heap.size + 1 from Array.size_push _] at h_; exact h_)) hb)
  have HG_BK_aA : Aside0 (w.heap.size < w1.heap.size) := ⟨blk_lt BK_aA.out⟩
  have HG_BK_aB : Aside0 ((w.heap.size + 1) < w1.heap.size) := ⟨blk_lt BK_aB.out⟩
  have HW := Aside0.mk (below_step (w := w) (by repeat (first | with_reducible exact Below.refl _ _ | with_reducible apply below_alloc | with_reducible refine below_set ?_ (Nat.le_refl _) | with_reducible apply pw_below_drewN | with_reducible apply below_drew1)) hb)
  have HZ1 : Aside0 (w.heap.size ≤ w1.heap.size) := ⟨HW.out.size⟩
  replace HB := Aside0.mk (below_step HB.out HW.out)
  clear hb HW
  have czBK_aA_0 : w1.cell? ⟨w.heap.size, 0, none⟩ = some (.int .i64 a0_0) := (blk_cell BK_aA.out 0).trans rfl
  have czBK_aA_1 : w1.cell? ⟨w.heap.size, 1, none⟩ = some (.slice A0_1 l0_1.length c0_1) := (blk_cell BK_aA.out 1).trans rfl
  have czBK_aA_2 : w1.cell? ⟨w.heap.size, 2, none⟩ = some (.slice A0_2 l0_2.length c0_2) := (blk_cell BK_aA.out 2).trans rfl
  have czBK_aB_0 : w1.cell? ⟨(w.heap.size + 1), 0, none⟩ = some (.int .i64 a1_0) := (blk_cell BK_aB.out 0).trans rfl
  have czBK_aB_1 : w1.cell? ⟨(w.heap.size + 1), 1, none⟩ = some (.slice A1_1 l1_1.length c1_1) := (blk_cell BK_aB.out 1).trans rfl
  have czBK_aB_2 : w1.cell? ⟨(w.heap.size + 1), 2, none⟩ = some (.slice A1_2 l1_2.length c1_2) := (blk_cell BK_aB.out 2).trans rfl
  go_wp2_with fail
  go_ret
  exact ⟨rfl, below_step HB.out (by repeat (first | with_reducible exact Below.refl _ _ | with_reducible apply below_alloc | with_reducible refine below_set ?_ (Nat.le_refl _) | with_reducible apply pw_below_drewN | with_reducible apply below_drew1))⟩
set_option maxHeartbeats 4000000 in
set_option maxRecDepth 100000 in
theorem FnExactAreEqual_small1 (k : Nat) (a0_0 : Int) (A0_1 : Option Addr) (c0_1 : Nat) (l0_1 : List (List (Int))) (A0_2 : Option Addr) (c0_2 : Nat) (l0_2 : List (Int)) (a1_0 : Int) (A1_1 : Option Addr) (c1_1 : Nat) (l1_1 : List (List (Int))) (A1_2 : Option Addr) (c1_2 : Nat) (l1_2 : List (Int)) (z_aA : Int) (z_aB : Int) (w : World)
    (hr0_1 : Kd.C (Kd.slice 3 (Kd.int .i64)) w A0_1 l0_1.length l0_1) (hc0_1 : l0_1.length ≤ c0_1)
    (hr0_2 : Kd.C (Kd.int .i64) w A0_2 l0_2.length l0_2) (hc0_2 : l0_2.length ≤ c0_2)
    (hr1_1 : Kd.C (Kd.slice 3 (Kd.int .i64)) w A1_1 l1_1.length l1_1) (hc1_1 : l1_1.length ≤ c1_1)
    (hr1_2 : Kd.C (Kd.int .i64) w A1_2 l1_2.length l1_2) (hc1_2 : l1_2.length ≤ c1_2)
    (e_sz_aA : laws_szAutomaton.f k a0_0 l0_1 l0_2 1048576 = some z_aA)
    (hz_aA : 0 ≤ z_aA)
    (e_sz_aB : laws_szAutomaton.f k a1_0 l1_1 l1_2 z_aA = some z_aB)
    (hz_aB : z_aB < 0) :
    Calls Try.prog 3 #[.agg #[.int .i64 a0_0, .slice A0_1 l0_1.length c0_1, .slice A0_2 l0_2.length c0_2], .agg #[.int .i64 a1_0, .slice A1_1 l1_1.length c1_1, .slice A1_2 l1_2.length c1_2]] w fun e w' => e = .returned (.bool true) ∧ Below w.heap.size w w' := by
  have hu29 := Try.underlying29
  have hu25 := Try.underlying25
  have hzb_aB : decide (z_aB < 0) = true := decide_eq_true (by omega)
  have hzb_aA : decide (z_aA < 0) = false := decide_eq_false (by omega)
  have HR0_1 := Aside0.mk hr0_1
  clear hr0_1
  have HC0_1 := Aside0.mk hc0_1
  clear hc0_1
  have HR0_2 := Aside0.mk hr0_2
  clear hr0_2
  have HC0_2 := Aside0.mk hc0_2
  clear hc0_2
  have HR1_1 := Aside0.mk hr1_1
  clear hr1_1
  have HC1_1 := Aside0.mk hc1_1
  clear hc1_1
  have HR1_2 := Aside0.mk hr1_2
  clear hr1_2
  have HC1_2 := Aside0.mk hc1_2
  clear hc1_2
  have He_sz_aA := Aside0.mk e_sz_aA
  clear e_sz_aA
  have He_sz_aB := Aside0.mk e_sz_aB
  clear e_sz_aB
  have HB := Aside0.mk (Below.refl w.heap.size w)
  go_enter Try.func3, Try.ntmps3
  go_wp2_with fail
  refine (laws_szAutomaton.calls k _ _ _ _ _ _ _ _ _ _ (Kd.C_below HR0_1.out (below_step HB.out (by repeat (first | with_reducible exact Below.refl _ _ | with_reducible apply below_alloc | with_reducible refine below_set ?_ (Nat.le_refl _) | with_reducible apply pw_below_drewN | with_reducible apply below_drew1)))) HC0_1.out (Kd.C_below HR0_2.out (below_step HB.out (by repeat (first | with_reducible exact Below.refl _ _ | with_reducible apply below_alloc | with_reducible refine below_set ?_ (Nat.le_refl _) | with_reducible apply pw_below_drewN | with_reducible apply below_drew1)))) HC0_2.out He_sz_aA.out).mono ?_
  rintro e w1 ⟨rfl, hb⟩
  have BK_aA := Aside0.mk (blk_below (g := w.heap.size) (o := .cells #[.int .i64 a0_0, .slice A0_1 l0_1.length c0_1, .slice A0_2 l0_2.length c0_2] 25 (0, 0)) (by (repeat (first | with_reducible refine blk_drewN ?_ _ | with_reducible refine blk_drew ?_)); exact (blk_alloc (blk_new _ _) _)) hb)
  have BK_aB := Aside0.mk (blk_below (g := (w.heap.size + 1)) (o := .cells #[.int .i64 a1_0, .slice A1_1 l1_1.length c1_1, .slice A1_2 l1_2.length c1_2] 25 (0, 0)) (by (repeat (first | with_reducible refine blk_drewN ?_ _ | with_reducible refine blk_drew ?_)); exact (by have h_ := blk_new (w.alloc (.cells #[.int .i64 a0_0, .slice A0_1 l0_1.length c0_1, .slice A0_2 l0_2.length c0_2] 25)) (.cells #[.int .i64 a1_0, .slice A1_1 l1_1.length c1_1, .slice A1_2 l1_2.length c1_2] 25); rw [show (w.alloc (.cells #[.int .i64 a0_0, .slice A0_1 l0_1.length c0_1, .slice A0_2 l0_2.length c0_2] 25)).heap.size = w.heap.size + 1 from Array.size_push _] at h_; exact h_)) hb)
  have HG_BK_aA : Aside0 (w.heap.size < w1.heap.size) := ⟨blk_lt BK_aA.out⟩
  have HG_BK_aB : Aside0 ((w.heap.size + 1) < w1.heap.size) := ⟨blk_lt BK_aB.out⟩
  have HW := Aside0.mk (below_step (w := w) (by repeat (first | with_reducible exact Below.refl _ _ | with_reducible apply below_alloc | with_reducible refine below_set ?_ (Nat.le_refl _) | with_reducible apply pw_below_drewN | with_reducible apply below_drew1)) hb)
  have HZ1 : Aside0 (w.heap.size ≤ w1.heap.size) := ⟨HW.out.size⟩
  replace HB := Aside0.mk (below_step HB.out HW.out)
  clear hb HW
  have czBK_aA_0 : w1.cell? ⟨w.heap.size, 0, none⟩ = some (.int .i64 a0_0) := (blk_cell BK_aA.out 0).trans rfl
  have czBK_aA_1 : w1.cell? ⟨w.heap.size, 1, none⟩ = some (.slice A0_1 l0_1.length c0_1) := (blk_cell BK_aA.out 1).trans rfl
  have czBK_aA_2 : w1.cell? ⟨w.heap.size, 2, none⟩ = some (.slice A0_2 l0_2.length c0_2) := (blk_cell BK_aA.out 2).trans rfl
  have czBK_aB_0 : w1.cell? ⟨(w.heap.size + 1), 0, none⟩ = some (.int .i64 a1_0) := (blk_cell BK_aB.out 0).trans rfl
  have czBK_aB_1 : w1.cell? ⟨(w.heap.size + 1), 1, none⟩ = some (.slice A1_1 l1_1.length c1_1) := (blk_cell BK_aB.out 1).trans rfl
  have czBK_aB_2 : w1.cell? ⟨(w.heap.size + 1), 2, none⟩ = some (.slice A1_2 l1_2.length c1_2) := (blk_cell BK_aB.out 2).trans rfl
  go_wp2_with fail
  refine (laws_szAutomaton.calls k _ _ _ _ _ _ _ _ _ _ (Kd.C_below HR1_1.out (below_step HB.out (by repeat (first | with_reducible exact Below.refl _ _ | with_reducible apply below_alloc | with_reducible refine below_set ?_ (Nat.le_refl _) | with_reducible apply pw_below_drewN | with_reducible apply below_drew1)))) HC1_1.out (Kd.C_below HR1_2.out (below_step HB.out (by repeat (first | with_reducible exact Below.refl _ _ | with_reducible apply below_alloc | with_reducible refine below_set ?_ (Nat.le_refl _) | with_reducible apply pw_below_drewN | with_reducible apply below_drew1)))) HC1_2.out He_sz_aB.out).mono ?_
  rintro e w2 ⟨rfl, hb⟩
  clear czBK_aA_0 czBK_aA_1 czBK_aA_2 czBK_aB_0 czBK_aB_1 czBK_aB_2
  have HW := Aside0.mk (below_step (w := w1) (by repeat (first | with_reducible exact Below.refl _ _ | with_reducible apply below_alloc | with_reducible refine below_set ?_ (Nat.le_refl _) | with_reducible apply pw_below_drewN | with_reducible apply below_drew1)) hb)
  have HZ2 : Aside0 (w1.heap.size ≤ w2.heap.size) := ⟨HW.out.size⟩
  replace HB := Aside0.mk (below_step HB.out HW.out)
  replace BK_aA := Aside0.mk (blk_below BK_aA.out HW.out)
  replace BK_aB := Aside0.mk (blk_below BK_aB.out HW.out)
  clear hb HW
  have czBK_aA_0 : w2.cell? ⟨w.heap.size, 0, none⟩ = some (.int .i64 a0_0) := (blk_cell BK_aA.out 0).trans rfl
  have czBK_aA_1 : w2.cell? ⟨w.heap.size, 1, none⟩ = some (.slice A0_1 l0_1.length c0_1) := (blk_cell BK_aA.out 1).trans rfl
  have czBK_aA_2 : w2.cell? ⟨w.heap.size, 2, none⟩ = some (.slice A0_2 l0_2.length c0_2) := (blk_cell BK_aA.out 2).trans rfl
  have czBK_aB_0 : w2.cell? ⟨(w.heap.size + 1), 0, none⟩ = some (.int .i64 a1_0) := (blk_cell BK_aB.out 0).trans rfl
  have czBK_aB_1 : w2.cell? ⟨(w.heap.size + 1), 1, none⟩ = some (.slice A1_1 l1_1.length c1_1) := (blk_cell BK_aB.out 1).trans rfl
  have czBK_aB_2 : w2.cell? ⟨(w.heap.size + 1), 2, none⟩ = some (.slice A1_2 l1_2.length c1_2) := (blk_cell BK_aB.out 2).trans rfl
  go_wp2_with fail
  go_ret
  exact ⟨rfl, below_step HB.out (by repeat (first | with_reducible exact Below.refl _ _ | with_reducible apply below_alloc | with_reducible refine below_set ?_ (Nat.le_refl _) | with_reducible apply pw_below_drewN | with_reducible apply below_drew1))⟩
set_option maxHeartbeats 4000000 in
set_option maxRecDepth 100000 in
theorem FnExactAreEqual_walk (k : Nat) (a0_0 : Int) (A0_1 : Option Addr) (c0_1 : Nat) (l0_1 : List (List (Int))) (A0_2 : Option Addr) (c0_2 : Nat) (l0_2 : List (Int)) (a1_0 : Int) (A1_1 : Option Addr) (c1_1 : Nat) (l1_1 : List (List (Int))) (A1_2 : Option Addr) (c1_2 : Nat) (l1_2 : List (Int)) (z_aA : Int) (z_aB : Int) (r0 : Bool) (r1 : Bool) (w : World)
    (hr0_1 : Kd.C (Kd.slice 3 (Kd.int .i64)) w A0_1 l0_1.length l0_1) (hc0_1 : l0_1.length ≤ c0_1)
    (hr0_2 : Kd.C (Kd.int .i64) w A0_2 l0_2.length l0_2) (hc0_2 : l0_2.length ≤ c0_2)
    (hr1_1 : Kd.C (Kd.slice 3 (Kd.int .i64)) w A1_1 l1_1.length l1_1) (hc1_1 : l1_1.length ≤ c1_1)
    (hr1_2 : Kd.C (Kd.int .i64) w A1_2 l1_2.length l1_2) (hc1_2 : l1_2.length ≤ c1_2)
    (e_sz_aA : laws_szAutomaton.f k a0_0 l0_1 l0_2 1048576 = some z_aA)
    (hz_aA : 0 ≤ z_aA)
    (e_sz_aB : laws_szAutomaton.f k a1_0 l1_1 l1_2 z_aA = some z_aB)
    (hz_aB : 0 ≤ z_aB)
    (e_to_aA : laws_toAutomaton.f k a0_0 l0_1 l0_2 = some (a0_0, l0_1, l0_2))
    (e_to_aB : laws_toAutomaton.f k a1_0 l1_1 l1_2 = some (a1_0, l1_1, l1_2))
    (e_spec : spec_AreEqual.f k a0_0 l0_1 l0_2 a1_0 l1_1 l1_2 = some (r0, r1))
    (e_impl : impl_AreEqual.f k a0_0 l0_1 l0_2 a1_0 l1_1 l1_2 = some (r0, r1))
    (e_eq_x0 : laws_eqAutomaton.f k a0_0 l0_1 l0_2 a0_0 l0_1 l0_2 = some true)
    (e_eq_x1 : laws_eqAutomaton.f k a1_0 l1_1 l1_2 a1_0 l1_1 l1_2 = some true) :
    Calls Try.prog 3 #[.agg #[.int .i64 a0_0, .slice A0_1 l0_1.length c0_1, .slice A0_2 l0_2.length c0_2], .agg #[.int .i64 a1_0, .slice A1_1 l1_1.length c1_1, .slice A1_2 l1_2.length c1_2]] w fun e w' => e = .returned (.bool true) ∧ Below w.heap.size w w' := by
  have hu29 := Try.underlying29
  have hu25 := Try.underlying25
  have hzb_aB : decide (z_aB < 0) = false := decide_eq_false (by omega)
  have hzb_aA : decide (z_aA < 0) = false := decide_eq_false (by omega)
  have HR0_1 := Aside0.mk hr0_1
  clear hr0_1
  have HC0_1 := Aside0.mk hc0_1
  clear hc0_1
  have HR0_2 := Aside0.mk hr0_2
  clear hr0_2
  have HC0_2 := Aside0.mk hc0_2
  clear hc0_2
  have HR1_1 := Aside0.mk hr1_1
  clear hr1_1
  have HC1_1 := Aside0.mk hc1_1
  clear hc1_1
  have HR1_2 := Aside0.mk hr1_2
  clear hr1_2
  have HC1_2 := Aside0.mk hc1_2
  clear hc1_2
  have He_sz_aA := Aside0.mk e_sz_aA
  clear e_sz_aA
  have He_sz_aB := Aside0.mk e_sz_aB
  clear e_sz_aB
  have He_to_aA := Aside0.mk e_to_aA
  clear e_to_aA
  have He_to_aB := Aside0.mk e_to_aB
  clear e_to_aB
  have He_spec := Aside0.mk e_spec
  clear e_spec
  have He_impl := Aside0.mk e_impl
  clear e_impl
  have He_eq_x0 := Aside0.mk e_eq_x0
  clear e_eq_x0
  have He_eq_x1 := Aside0.mk e_eq_x1
  clear e_eq_x1
  have HB := Aside0.mk (Below.refl w.heap.size w)
  go_enter Try.func3, Try.ntmps3
  go_wp2_with fail
  refine (laws_szAutomaton.calls k _ _ _ _ _ _ _ _ _ _ (Kd.C_below HR0_1.out (below_step HB.out (by repeat (first | with_reducible exact Below.refl _ _ | with_reducible apply below_alloc | with_reducible refine below_set ?_ (Nat.le_refl _) | with_reducible apply pw_below_drewN | with_reducible apply below_drew1)))) HC0_1.out (Kd.C_below HR0_2.out (below_step HB.out (by repeat (first | with_reducible exact Below.refl _ _ | with_reducible apply below_alloc | with_reducible refine below_set ?_ (Nat.le_refl _) | with_reducible apply pw_below_drewN | with_reducible apply below_drew1)))) HC0_2.out He_sz_aA.out).mono ?_
  rintro e w1 ⟨rfl, hb⟩
  have BK_aA := Aside0.mk (blk_below (g := w.heap.size) (o := .cells #[.int .i64 a0_0, .slice A0_1 l0_1.length c0_1, .slice A0_2 l0_2.length c0_2] 25 (0, 0)) (by (repeat (first | with_reducible refine blk_drewN ?_ _ | with_reducible refine blk_drew ?_)); exact (blk_alloc (blk_new _ _) _)) hb)
  have BK_aB := Aside0.mk (blk_below (g := (w.heap.size + 1)) (o := .cells #[.int .i64 a1_0, .slice A1_1 l1_1.length c1_1, .slice A1_2 l1_2.length c1_2] 25 (0, 0)) (by (repeat (first | with_reducible refine blk_drewN ?_ _ | with_reducible refine blk_drew ?_)); exact (by have h_ := blk_new (w.alloc (.cells #[.int .i64 a0_0, .slice A0_1 l0_1.length c0_1, .slice A0_2 l0_2.length c0_2] 25)) (.cells #[.int .i64 a1_0, .slice A1_1 l1_1.length c1_1, .slice A1_2 l1_2.length c1_2] 25); rw [show (w.alloc (.cells #[.int .i64 a0_0, .slice A0_1 l0_1.length c0_1, .slice A0_2 l0_2.length c0_2] 25)).heap.size = w.heap.size + 1 from Array.size_push _] at h_; exact h_)) hb)
  have HG_BK_aA : Aside0 (w.heap.size < w1.heap.size) := ⟨blk_lt BK_aA.out⟩
  have HG_BK_aB : Aside0 ((w.heap.size + 1) < w1.heap.size) := ⟨blk_lt BK_aB.out⟩
  have HW := Aside0.mk (below_step (w := w) (by repeat (first | with_reducible exact Below.refl _ _ | with_reducible apply below_alloc | with_reducible refine below_set ?_ (Nat.le_refl _) | with_reducible apply pw_below_drewN | with_reducible apply below_drew1)) hb)
  have HZ1 : Aside0 (w.heap.size ≤ w1.heap.size) := ⟨HW.out.size⟩
  replace HB := Aside0.mk (below_step HB.out HW.out)
  clear hb HW
  have czBK_aA_0 : w1.cell? ⟨w.heap.size, 0, none⟩ = some (.int .i64 a0_0) := (blk_cell BK_aA.out 0).trans rfl
  have czBK_aA_1 : w1.cell? ⟨w.heap.size, 1, none⟩ = some (.slice A0_1 l0_1.length c0_1) := (blk_cell BK_aA.out 1).trans rfl
  have czBK_aA_2 : w1.cell? ⟨w.heap.size, 2, none⟩ = some (.slice A0_2 l0_2.length c0_2) := (blk_cell BK_aA.out 2).trans rfl
  have czBK_aB_0 : w1.cell? ⟨(w.heap.size + 1), 0, none⟩ = some (.int .i64 a1_0) := (blk_cell BK_aB.out 0).trans rfl
  have czBK_aB_1 : w1.cell? ⟨(w.heap.size + 1), 1, none⟩ = some (.slice A1_1 l1_1.length c1_1) := (blk_cell BK_aB.out 1).trans rfl
  have czBK_aB_2 : w1.cell? ⟨(w.heap.size + 1), 2, none⟩ = some (.slice A1_2 l1_2.length c1_2) := (blk_cell BK_aB.out 2).trans rfl
  go_wp2_with fail
  refine (laws_szAutomaton.calls k _ _ _ _ _ _ _ _ _ _ (Kd.C_below HR1_1.out (below_step HB.out (by repeat (first | with_reducible exact Below.refl _ _ | with_reducible apply below_alloc | with_reducible refine below_set ?_ (Nat.le_refl _) | with_reducible apply pw_below_drewN | with_reducible apply below_drew1)))) HC1_1.out (Kd.C_below HR1_2.out (below_step HB.out (by repeat (first | with_reducible exact Below.refl _ _ | with_reducible apply below_alloc | with_reducible refine below_set ?_ (Nat.le_refl _) | with_reducible apply pw_below_drewN | with_reducible apply below_drew1)))) HC1_2.out He_sz_aB.out).mono ?_
  rintro e w2 ⟨rfl, hb⟩
  clear czBK_aA_0 czBK_aA_1 czBK_aA_2 czBK_aB_0 czBK_aB_1 czBK_aB_2
  have HW := Aside0.mk (below_step (w := w1) (by repeat (first | with_reducible exact Below.refl _ _ | with_reducible apply below_alloc | with_reducible refine below_set ?_ (Nat.le_refl _) | with_reducible apply pw_below_drewN | with_reducible apply below_drew1)) hb)
  have HZ2 : Aside0 (w1.heap.size ≤ w2.heap.size) := ⟨HW.out.size⟩
  replace HB := Aside0.mk (below_step HB.out HW.out)
  replace BK_aA := Aside0.mk (blk_below BK_aA.out HW.out)
  replace BK_aB := Aside0.mk (blk_below BK_aB.out HW.out)
  clear hb HW
  have czBK_aA_0 : w2.cell? ⟨w.heap.size, 0, none⟩ = some (.int .i64 a0_0) := (blk_cell BK_aA.out 0).trans rfl
  have czBK_aA_1 : w2.cell? ⟨w.heap.size, 1, none⟩ = some (.slice A0_1 l0_1.length c0_1) := (blk_cell BK_aA.out 1).trans rfl
  have czBK_aA_2 : w2.cell? ⟨w.heap.size, 2, none⟩ = some (.slice A0_2 l0_2.length c0_2) := (blk_cell BK_aA.out 2).trans rfl
  have czBK_aB_0 : w2.cell? ⟨(w.heap.size + 1), 0, none⟩ = some (.int .i64 a1_0) := (blk_cell BK_aB.out 0).trans rfl
  have czBK_aB_1 : w2.cell? ⟨(w.heap.size + 1), 1, none⟩ = some (.slice A1_1 l1_1.length c1_1) := (blk_cell BK_aB.out 1).trans rfl
  have czBK_aB_2 : w2.cell? ⟨(w.heap.size + 1), 2, none⟩ = some (.slice A1_2 l1_2.length c1_2) := (blk_cell BK_aB.out 2).trans rfl
  go_wp2_with fail
  clear czBK_aA_0 czBK_aA_1 czBK_aA_2 czBK_aB_0 czBK_aB_1 czBK_aB_2
  refine start_ (n := 10) (S := fun w' => w'.cell? ⟨w.heap.size, 0, none⟩ = some (.int .i64 a0_0) ∧ w'.cell? ⟨w.heap.size, 1, none⟩ = some (.slice A0_1 l0_1.length c0_1) ∧ w'.cell? ⟨w.heap.size, 2, none⟩ = some (.slice A0_2 l0_2.length c0_2) ∧ w'.cell? ⟨(w.heap.size + 1), 0, none⟩ = some (.int .i64 a1_0) ∧ w'.cell? ⟨(w.heap.size + 1), 1, none⟩ = some (.slice A1_1 l1_1.length c1_1) ∧ w'.cell? ⟨(w.heap.size + 1), 2, none⟩ = some (.slice A1_2 l1_2.length c1_2)) (ds := []) #[false, false, false, false, false, false, false, false, false, false] (by kernel_rfl) rfl rfl ⟨(blk_cell BK_aA.out 0).trans rfl, (blk_cell BK_aA.out 1).trans rfl, (blk_cell BK_aA.out 2).trans rfl, (blk_cell BK_aB.out 0).trans rfl, (blk_cell BK_aB.out 1).trans rfl, (blk_cell BK_aB.out 2).trans rfl⟩ (fun hHeld => ?_)
  refine Own.anew_ (wN := w2) (by repeat (first | with_reducible exact Below.refl _ _ | with_reducible apply below_alloc | with_reducible refine below_set ?_ (Nat.le_refl _) | with_reducible apply pw_below_drewN | with_reducible apply below_drew1)) hHeld (fun w3 hb hHeld => ?_)
  have HW := Aside0.mk hb
  have HZ3 : Aside0 (w2.heap.size ≤ w3.heap.size) := ⟨HW.out.size⟩
  replace HB := Aside0.mk (below_step HB.out HW.out)
  replace BK_aA := Aside0.mk (blk_below BK_aA.out HW.out)
  replace BK_aB := Aside0.mk (blk_below BK_aB.out HW.out)
  clear hb HW
  refine take_ (i := 0) (N := some 23) (v := ?_) (a' := ?_) #[true, false, false, false, false, false, false, false, false, false] rfl rfl (by kernel_rfl) (fun _ _ _ h => h) (Or.inl ⟨by rfl, ?_⟩) hHeld ?_ ?_
  rotate_left
  · rintro w' ⟨s0_, s1_, s2_, s3_, s4_, s5_⟩
    go_simp
    with_reducible rfl
  rotate_left
  · simp only [Act.put, List.setIfInBounds_toArray, List.set_cons_zero, List.set_cons_succ, i64_w, i32_w]
    rfl
  refine take_ (i := 2) (N := some 25) (v := ?_) (a' := ?_) #[true, false, true, false, false, false, false, false, false, false] rfl rfl (by kernel_rfl) (fun _ _ _ h => h) (Or.inl ⟨by rfl, ?_⟩) hHeld ?_ ?_
  rotate_left
  · rintro w' ⟨s0_, s1_, s2_, s3_, s4_, s5_⟩
    go_simp
    with_reducible rfl
  rotate_left
  · simp only [Act.put, List.setIfInBounds_toArray, List.set_cons_zero, List.set_cons_succ, i64_w, i32_w]
    rfl
  have HP_ : Aside0 (Below w3.heap.size w3 w3) := ⟨Below.refl _ _⟩
  refine one_ (i := 1) (N := some 24) #[true, true, true, false, false, false, false, false, false, false] rfl rfl (by kernel_rfl) (by decide) (fun K hK => ?_)
  refine goes_ Try.func10 (by kernel_rfl) rfl #[.agg #[.int .i64 a0_0, .slice A0_1 l0_1.length c0_1, .slice A0_2 l0_2.length c0_2]] (by rfl) rfl rfl (by (try simp only [List.map_toArray, List.map_cons, List.map_nil]); first | done | rfl | (simp only [List.length_drop, List.length_take]; rfl)) ?_
  with_reducible refine (laws_toAutomaton.calls k _ _ _ _ _ _ _ _ _ _ _ (Kd.C_below HR0_1.out (below_step HB.out HP_.out)) HC0_1.out (Kd.C_below HR0_2.out (below_step HB.out HP_.out)) HC0_2.out He_to_aA.out).mono ?_
  rintro e wq0 ⟨vq0a, vq0b, rfl, hf0a, hf0b, hb⟩
  refine ⟨_, rfl, ?_⟩
  have FQ0a := Aside0.mk (Kd.S_lower hf0a HP_.out.size)
  have FQ0b := Aside0.mk (Kd.R_lower hf0b HP_.out.size)
  replace HP_ := Aside0.mk (below_step HP_.out hb)
  clear hf0a hf0b hb
  obtain ⟨Aq0a_, cq0a_, eq0a_⟩ := Kd.S_slice FQ0a.out
  subst eq0a_
  obtain ⟨Aq0b_, cq0b_, eq0b_⟩ := Kd.R_slice FQ0b.out
  subst eq0b_
  refine hK.out _ _ ⟨(blk_cell (blk_below BK_aA.out HP_.out) 0).trans rfl, (blk_cell (blk_below BK_aA.out HP_.out) 1).trans rfl, (blk_cell (blk_below BK_aA.out HP_.out) 2).trans rfl, (blk_cell (blk_below BK_aB.out HP_.out) 0).trans rfl, (blk_cell (blk_below BK_aB.out HP_.out) 1).trans rfl, (blk_cell (blk_below BK_aB.out HP_.out) 2).trans rfl⟩ (fun hHeld => ?_)
  clear hK K
  refine norm_ (a' := ?_) ?_ ?_
  rotate_left
  · show Act.put _ (some 24) _ = _
    simp only [Act.put, List.setIfInBounds_toArray, List.set_cons_zero, List.set_cons_succ, i64_w, i32_w]
    rfl
  refine one_ (i := 3) (N := some 26) #[true, true, true, true, false, false, false, false, false, false] rfl rfl (by kernel_rfl) (by decide) (fun K hK => ?_)
  refine goes_ Try.func10 (by kernel_rfl) rfl #[.agg #[.int .i64 a1_0, .slice A1_1 l1_1.length c1_1, .slice A1_2 l1_2.length c1_2]] (by rfl) rfl rfl (by (try simp only [List.map_toArray, List.map_cons, List.map_nil]); first | done | rfl | (simp only [List.length_drop, List.length_take]; rfl)) ?_
  with_reducible refine (laws_toAutomaton.calls k _ _ _ _ _ _ _ _ _ _ _ (Kd.C_below HR1_1.out (below_step HB.out HP_.out)) HC1_1.out (Kd.C_below HR1_2.out (below_step HB.out HP_.out)) HC1_2.out He_to_aB.out).mono ?_
  rintro e wq1 ⟨vq1a, vq1b, rfl, hf1a, hf1b, hb⟩
  refine ⟨_, rfl, ?_⟩
  have FQ1a := Aside0.mk (Kd.S_lower hf1a HP_.out.size)
  have FQ1b := Aside0.mk (Kd.R_lower hf1b HP_.out.size)
  replace HP_ := Aside0.mk (below_step HP_.out hb)
  replace FQ0a := Aside0.mk (Kd.S_below FQ0a.out hb)
  replace FQ0b := Aside0.mk (Kd.R_below FQ0b.out hb)
  clear hf1a hf1b hb
  obtain ⟨Aq1a_, cq1a_, eq1a_⟩ := Kd.S_slice FQ1a.out
  subst eq1a_
  obtain ⟨Aq1b_, cq1b_, eq1b_⟩ := Kd.R_slice FQ1b.out
  subst eq1b_
  refine hK.out _ _ ⟨(blk_cell (blk_below BK_aA.out HP_.out) 0).trans rfl, (blk_cell (blk_below BK_aA.out HP_.out) 1).trans rfl, (blk_cell (blk_below BK_aA.out HP_.out) 2).trans rfl, (blk_cell (blk_below BK_aB.out HP_.out) 0).trans rfl, (blk_cell (blk_below BK_aB.out HP_.out) 1).trans rfl, (blk_cell (blk_below BK_aB.out HP_.out) 2).trans rfl⟩ (fun hHeld => ?_)
  clear hK K
  refine norm_ (a' := ?_) ?_ ?_
  rotate_left
  · show Act.put _ (some 26) _ = _
    simp only [Act.put, List.setIfInBounds_toArray, List.set_cons_zero, List.set_cons_succ, i64_w, i32_w]
    rfl
  refine one_ (i := 4) (N := some 27) #[true, true, true, true, true, false, false, false, false, false] rfl rfl (by kernel_rfl) (by decide) (fun K hK => ?_)
  refine goes_ Try.func9 (by kernel_rfl) rfl #[.agg #[.int .i64 a0_0, .slice Aq0a_ l0_1.length cq0a_, .slice Aq0b_ l0_2.length cq0b_], .agg #[.int .i64 a1_0, .slice Aq1a_ l1_1.length cq1a_, .slice Aq1b_ l1_2.length cq1b_]] (by rfl) rfl rfl (by (try simp only [List.map_toArray, List.map_cons, List.map_nil]); first | done | rfl | (simp only [List.length_drop, List.length_take]; rfl)) ?_
  with_reducible refine (spec_AreEqual.calls k _ _ _ _ _ _ _ _ _ _ _ _ _ _ _ _ _ (Kd.C_below (Kd.S_reads' FQ0a.out).2.2 (Below.refl _ _)) (Kd.S_reads' FQ0a.out).2.1 (Kd.C_below (Kd.R_reads' FQ0b.out).2.2 (Below.refl _ _)) (Kd.R_reads' FQ0b.out).2.1 (Kd.C_below (Kd.S_reads' FQ1a.out).2.2 (Below.refl _ _)) (Kd.S_reads' FQ1a.out).2.1 (Kd.C_below (Kd.R_reads' FQ1b.out).2.2 (Below.refl _ _)) (Kd.R_reads' FQ1b.out).2.1 He_spec.out).mono ?_
  rintro e w4 ⟨rfl, hb⟩
  refine ⟨_, rfl, ?_⟩
  replace HP_ := Aside0.mk (below_step HP_.out hb)
  replace FQ0a := Aside0.mk (Kd.S_below FQ0a.out hb)
  replace FQ0b := Aside0.mk (Kd.R_below FQ0b.out hb)
  replace FQ1a := Aside0.mk (Kd.S_below FQ1a.out hb)
  replace FQ1b := Aside0.mk (Kd.R_below FQ1b.out hb)
  clear hb
  refine hK.out _ _ ⟨(blk_cell (blk_below BK_aA.out HP_.out) 0).trans rfl, (blk_cell (blk_below BK_aA.out HP_.out) 1).trans rfl, (blk_cell (blk_below BK_aA.out HP_.out) 2).trans rfl, (blk_cell (blk_below BK_aB.out HP_.out) 0).trans rfl, (blk_cell (blk_below BK_aB.out HP_.out) 1).trans rfl, (blk_cell (blk_below BK_aB.out HP_.out) 2).trans rfl⟩ (fun hHeld => ?_)
  clear hK K
  refine norm_ (a' := ?_) ?_ ?_
  rotate_left
  · show Act.put _ (some 27) _ = _
    simp only [Act.put, List.setIfInBounds_toArray, List.set_cons_zero, List.set_cons_succ, i64_w, i32_w]
    rfl
  refine pure_ (i := 5) (N := some 22) (v := ?_) (a' := ?_) #[true, true, true, true, true, true, false, false, false, false] rfl rfl (by kernel_rfl) (fun _ _ _ h => h) (Or.inl ⟨by rfl, ?_⟩) ?_ ?_
  rotate_left
  · intro w'
    go_simp
    with_reducible rfl
  rotate_left
  · simp only [Act.put, List.setIfInBounds_toArray, List.set_cons_zero, List.set_cons_succ, i64_w, i32_w]
    rfl
  refine pure_ (i := 6) (N := some 28) (v := ?_) (a' := ?_) #[true, true, true, true, true, true, true, false, false, false] rfl rfl (by kernel_rfl) (fun _ _ _ h => h) (Or.inl ⟨by rfl, ?_⟩) ?_ ?_
  rotate_left
  · intro w'
    go_simp
    with_reducible rfl
  rotate_left
  · simp only [Act.put, List.setIfInBounds_toArray, List.set_cons_zero, List.set_cons_succ, i64_w, i32_w]
    rfl
  refine pure_ (i := 7) (N := some 29) (v := ?_) (a' := ?_) #[true, true, true, true, true, true, true, true, false, false] rfl rfl (by kernel_rfl) (fun _ _ _ h => h) (Or.inl ⟨by rfl, ?_⟩) ?_ ?_
  rotate_left
  · intro w'
    go_simp
    with_reducible rfl
  rotate_left
  · simp only [Act.put, List.setIfInBounds_toArray, List.set_cons_zero, List.set_cons_succ, i64_w, i32_w]
    rfl
  refine pure_ (i := 8) (N := some 6) (v := ?_) (a' := ?_) #[true, true, true, true, true, true, true, true, true, false] rfl rfl (by kernel_rfl) (fun _ _ _ h => h) (Or.inl ⟨by rfl, ?_⟩) ?_ ?_
  rotate_left
  · intro w'
    go_simp
    with_reducible rfl
  rotate_left
  · simp only [Act.put, List.setIfInBounds_toArray, List.set_cons_zero, List.set_cons_succ, i64_w, i32_w]
    rfl
  refine pure_ (i := 9) (N := some 7) (v := ?_) (a' := ?_) #[true, true, true, true, true, true, true, true, true, true] rfl rfl (by kernel_rfl) (fun _ _ _ h => h) (Or.inl ⟨by rfl, ?_⟩) ?_ ?_
  rotate_left
  · intro w'
    go_simp
    with_reducible rfl
  rotate_left
  · simp only [Act.put, List.setIfInBounds_toArray, List.set_cons_zero, List.set_cons_succ, i64_w, i32_w]
    rfl
  have hb := HP_.out
  clear HP_
  have HN := Aside0.mk HB.out.size
  have HW := Aside0.mk (below_step (w := w3) (by repeat (first | with_reducible exact Below.refl _ _ | with_reducible apply below_alloc | with_reducible refine below_set ?_ (Nat.le_refl _) | with_reducible apply pw_below_drewN | with_reducible apply below_drew1)) hb)
  have HZ4 : Aside0 (w3.heap.size ≤ w4.heap.size) := ⟨HW.out.size⟩
  replace HB := Aside0.mk (below_step HB.out HW.out)
  replace BK_aA := Aside0.mk (blk_below BK_aA.out HW.out)
  replace BK_aB := Aside0.mk (blk_below BK_aB.out HW.out)
  clear hb HW HN hHeld
  refine done_ (by kernel_rfl) ?_
  have czBK_aA_0 : w4.cell? ⟨w.heap.size, 0, none⟩ = some (.int .i64 a0_0) := (blk_cell BK_aA.out 0).trans rfl
  have czBK_aA_1 : w4.cell? ⟨w.heap.size, 1, none⟩ = some (.slice A0_1 l0_1.length c0_1) := (blk_cell BK_aA.out 1).trans rfl
  have czBK_aA_2 : w4.cell? ⟨w.heap.size, 2, none⟩ = some (.slice A0_2 l0_2.length c0_2) := (blk_cell BK_aA.out 2).trans rfl
  have czBK_aB_0 : w4.cell? ⟨(w.heap.size + 1), 0, none⟩ = some (.int .i64 a1_0) := (blk_cell BK_aB.out 0).trans rfl
  have czBK_aB_1 : w4.cell? ⟨(w.heap.size + 1), 1, none⟩ = some (.slice A1_1 l1_1.length c1_1) := (blk_cell BK_aB.out 1).trans rfl
  have czBK_aB_2 : w4.cell? ⟨(w.heap.size + 1), 2, none⟩ = some (.slice A1_2 l1_2.length c1_2) := (blk_cell BK_aB.out 2).trans rfl
  go_wp2_with fail
  refine (laws_toAutomaton.calls k _ _ _ _ _ _ _ _ _ _ _ (Kd.C_below HR0_1.out (below_step HB.out (by repeat (first | with_reducible exact Below.refl _ _ | with_reducible apply below_alloc | with_reducible refine below_set ?_ (Nat.le_refl _) | with_reducible apply pw_below_drewN | with_reducible apply below_drew1)))) HC0_1.out (Kd.C_below HR0_2.out (below_step HB.out (by repeat (first | with_reducible exact Below.refl _ _ | with_reducible apply below_alloc | with_reducible refine below_set ?_ (Nat.le_refl _) | with_reducible apply pw_below_drewN | with_reducible apply below_drew1)))) HC0_2.out He_to_aA.out).mono ?_
  rintro e w5 ⟨vx0_0, vx0_1, rfl, hf2, hf3, hb⟩
  clear czBK_aA_0 czBK_aA_1 czBK_aA_2 czBK_aB_0 czBK_aB_1 czBK_aB_2
  have HN := Aside0.mk HB.out.size
  have HW := Aside0.mk (below_step (w := w4) (by repeat (first | with_reducible exact Below.refl _ _ | with_reducible apply below_alloc | with_reducible refine below_set ?_ (Nat.le_refl _) | with_reducible apply pw_below_drewN | with_reducible apply below_drew1)) hb)
  have HZ5 : Aside0 (w4.heap.size ≤ w5.heap.size) := ⟨HW.out.size⟩
  replace HB := Aside0.mk (below_step HB.out HW.out)
  replace BK_aA := Aside0.mk (blk_below BK_aA.out HW.out)
  replace BK_aB := Aside0.mk (blk_below BK_aB.out HW.out)
  obtain ⟨lo2_, F2, HLO2⟩ := Own.S_iv (wN := w4) hf2 HN.out (by repeat (first | with_reducible exact Below.refl _ _ | with_reducible apply below_alloc | with_reducible refine below_set ?_ (Nat.le_refl _) | with_reducible apply pw_below_drewN | with_reducible apply below_drew1)) hb
  obtain ⟨lo3_, F3, HLO3⟩ := Own.R_iv (wN := w4) rfl hf3 HN.out (by repeat (first | with_reducible exact Below.refl _ _ | with_reducible apply below_alloc | with_reducible refine below_set ?_ (Nat.le_refl _) | with_reducible apply pw_below_drewN | with_reducible apply below_drew1)) hb
  obtain ⟨A2_, c2_, e2_⟩ := Kd.S_slice F2.out
  subst e2_
  obtain ⟨A3_, c3_, e3_⟩ := Kd.R_slice F3.out
  subst e3_
  clear hb HW HN hf2 hf3
  have czBK_aA_0 : (w5.alloc (.cells #[.int .i64 a0_0, .slice A2_ l0_1.length c2_, .slice A3_ l0_2.length c3_] 29)).cell? ⟨w.heap.size, 0, none⟩ = some (.int .i64 a0_0) := (blk_cell (blk_alloc BK_aA.out _) 0).trans rfl
  have czBK_aA_1 : (w5.alloc (.cells #[.int .i64 a0_0, .slice A2_ l0_1.length c2_, .slice A3_ l0_2.length c3_] 29)).cell? ⟨w.heap.size, 1, none⟩ = some (.slice A0_1 l0_1.length c0_1) := (blk_cell (blk_alloc BK_aA.out _) 1).trans rfl
  have czBK_aA_2 : (w5.alloc (.cells #[.int .i64 a0_0, .slice A2_ l0_1.length c2_, .slice A3_ l0_2.length c3_] 29)).cell? ⟨w.heap.size, 2, none⟩ = some (.slice A0_2 l0_2.length c0_2) := (blk_cell (blk_alloc BK_aA.out _) 2).trans rfl
  have czBK_aB_0 : (w5.alloc (.cells #[.int .i64 a0_0, .slice A2_ l0_1.length c2_, .slice A3_ l0_2.length c3_] 29)).cell? ⟨(w.heap.size + 1), 0, none⟩ = some (.int .i64 a1_0) := (blk_cell (blk_alloc BK_aB.out _) 0).trans rfl
  have czBK_aB_1 : (w5.alloc (.cells #[.int .i64 a0_0, .slice A2_ l0_1.length c2_, .slice A3_ l0_2.length c3_] 29)).cell? ⟨(w.heap.size + 1), 1, none⟩ = some (.slice A1_1 l1_1.length c1_1) := (blk_cell (blk_alloc BK_aB.out _) 1).trans rfl
  have czBK_aB_2 : (w5.alloc (.cells #[.int .i64 a0_0, .slice A2_ l0_1.length c2_, .slice A3_ l0_2.length c3_] 29)).cell? ⟨(w.heap.size + 1), 2, none⟩ = some (.slice A1_2 l1_2.length c1_2) := (blk_cell (blk_alloc BK_aB.out _) 2).trans rfl
  go_wp2_with fail
  refine (laws_toAutomaton.calls k _ _ _ _ _ _ _ _ _ _ _ (Kd.C_below HR1_1.out (below_step HB.out (by repeat (first | with_reducible exact Below.refl _ _ | with_reducible apply below_alloc | with_reducible refine below_set ?_ (Nat.le_refl _) | with_reducible apply pw_below_drewN | with_reducible apply below_drew1)))) HC1_1.out (Kd.C_below HR1_2.out (below_step HB.out (by repeat (first | with_reducible exact Below.refl _ _ | with_reducible apply below_alloc | with_reducible refine below_set ?_ (Nat.le_refl _) | with_reducible apply pw_below_drewN | with_reducible apply below_drew1)))) HC1_2.out He_to_aB.out).mono ?_
  rintro e w6 ⟨vx1_0, vx1_1, rfl, hf4, hf5, hb⟩
  clear czBK_aA_0 czBK_aA_1 czBK_aA_2 czBK_aB_0 czBK_aB_1 czBK_aB_2
  have HN := Aside0.mk HB.out.size
  have BK_x0 := Aside0.mk (blk_below (g := w5.heap.size) (o := .cells #[.int .i64 a0_0, .slice A2_ l0_1.length c2_, .slice A3_ l0_2.length c3_] 29 (0, 0)) (by (repeat (first | with_reducible refine blk_drewN ?_ _ | with_reducible refine blk_drew ?_)); exact (blk_new _ _)) hb)
  have HG_BK_x0 : Aside0 (w5.heap.size < w6.heap.size) := ⟨blk_lt BK_x0.out⟩
  have HW := Aside0.mk (below_step (w := w5) (by repeat (first | with_reducible exact Below.refl _ _ | with_reducible apply below_alloc | with_reducible refine below_set ?_ (Nat.le_refl _) | with_reducible apply pw_below_drewN | with_reducible apply below_drew1)) hb)
  have HZ6 : Aside0 (w5.heap.size ≤ w6.heap.size) := ⟨HW.out.size⟩
  replace HB := Aside0.mk (below_step HB.out HW.out)
  replace F2 := Aside0.mk (Kd.S_below F2.out HW.out)
  replace F3 := Aside0.mk (Kd.R_below F3.out HW.out)
  replace BK_aA := Aside0.mk (blk_below BK_aA.out HW.out)
  replace BK_aB := Aside0.mk (blk_below BK_aB.out HW.out)
  obtain ⟨lo4_, F4, HLO4⟩ := Own.S_ivb (wN := w5) (w5.heap.size) hf4 HN.out (by repeat (first | with_reducible exact Below.refl _ _ | with_reducible apply below_alloc | with_reducible refine below_set ?_ (Nat.le_refl _) | with_reducible apply pw_below_drewN | with_reducible apply below_drew1)) hb (blk_lt (o := .cells #[.int .i64 a0_0, .slice A2_ l0_1.length c2_, .slice A3_ l0_2.length c3_] 29 (0, 0)) (by (repeat (first | with_reducible refine blk_drewN ?_ _ | with_reducible refine blk_drew ?_)); exact (blk_new _ _)))
  obtain ⟨lo5_, F5, HLO5⟩ := Own.R_ivb (wN := w5) (w5.heap.size) rfl hf5 HN.out (by repeat (first | with_reducible exact Below.refl _ _ | with_reducible apply below_alloc | with_reducible refine below_set ?_ (Nat.le_refl _) | with_reducible apply pw_below_drewN | with_reducible apply below_drew1)) hb (blk_lt (o := .cells #[.int .i64 a0_0, .slice A2_ l0_1.length c2_, .slice A3_ l0_2.length c3_] 29 (0, 0)) (by (repeat (first | with_reducible refine blk_drewN ?_ _ | with_reducible refine blk_drew ?_)); exact (blk_new _ _)))
  obtain ⟨A4_, c4_, e4_⟩ := Kd.S_slice F4.out
  subst e4_
  obtain ⟨A5_, c5_, e5_⟩ := Kd.R_slice F5.out
  subst e5_
  clear hb HW HN hf4 hf5
  have czBK_aA_0 : (w6.alloc (.cells #[.int .i64 a1_0, .slice A4_ l1_1.length c4_, .slice A5_ l1_2.length c5_] 29)).cell? ⟨w.heap.size, 0, none⟩ = some (.int .i64 a0_0) := (blk_cell (blk_alloc BK_aA.out _) 0).trans rfl
  have czBK_aA_1 : (w6.alloc (.cells #[.int .i64 a1_0, .slice A4_ l1_1.length c4_, .slice A5_ l1_2.length c5_] 29)).cell? ⟨w.heap.size, 1, none⟩ = some (.slice A0_1 l0_1.length c0_1) := (blk_cell (blk_alloc BK_aA.out _) 1).trans rfl
  have czBK_aA_2 : (w6.alloc (.cells #[.int .i64 a1_0, .slice A4_ l1_1.length c4_, .slice A5_ l1_2.length c5_] 29)).cell? ⟨w.heap.size, 2, none⟩ = some (.slice A0_2 l0_2.length c0_2) := (blk_cell (blk_alloc BK_aA.out _) 2).trans rfl
  have czBK_aB_0 : (w6.alloc (.cells #[.int .i64 a1_0, .slice A4_ l1_1.length c4_, .slice A5_ l1_2.length c5_] 29)).cell? ⟨(w.heap.size + 1), 0, none⟩ = some (.int .i64 a1_0) := (blk_cell (blk_alloc BK_aB.out _) 0).trans rfl
  have czBK_aB_1 : (w6.alloc (.cells #[.int .i64 a1_0, .slice A4_ l1_1.length c4_, .slice A5_ l1_2.length c5_] 29)).cell? ⟨(w.heap.size + 1), 1, none⟩ = some (.slice A1_1 l1_1.length c1_1) := (blk_cell (blk_alloc BK_aB.out _) 1).trans rfl
  have czBK_aB_2 : (w6.alloc (.cells #[.int .i64 a1_0, .slice A4_ l1_1.length c4_, .slice A5_ l1_2.length c5_] 29)).cell? ⟨(w.heap.size + 1), 2, none⟩ = some (.slice A1_2 l1_2.length c1_2) := (blk_cell (blk_alloc BK_aB.out _) 2).trans rfl
  have czBK_x0_0 : (w6.alloc (.cells #[.int .i64 a1_0, .slice A4_ l1_1.length c4_, .slice A5_ l1_2.length c5_] 29)).cell? ⟨w5.heap.size, 0, none⟩ = some (.int .i64 a0_0) := (blk_cell (blk_alloc BK_x0.out _) 0).trans rfl
  have czBK_x0_1 : (w6.alloc (.cells #[.int .i64 a1_0, .slice A4_ l1_1.length c4_, .slice A5_ l1_2.length c5_] 29)).cell? ⟨w5.heap.size, 1, none⟩ = some (.slice A2_ l0_1.length c2_) := (blk_cell (blk_alloc BK_x0.out _) 1).trans rfl
  have czBK_x0_2 : (w6.alloc (.cells #[.int .i64 a1_0, .slice A4_ l1_1.length c4_, .slice A5_ l1_2.length c5_] 29)).cell? ⟨w5.heap.size, 2, none⟩ = some (.slice A3_ l0_2.length c3_) := (blk_cell (blk_alloc BK_x0.out _) 2).trans rfl
  go_wp2_with fail
  refine (impl_AreEqual.calls k _ _ _ _ _ _ _ _ _ _ _ _ _ _ _ _ _ (Kd.C_below (Kd.S_reads' F2.out).2.2 (by repeat (first | with_reducible exact Below.refl _ _ | with_reducible apply below_alloc | with_reducible refine below_set ?_ (Nat.le_refl _) | with_reducible apply pw_below_drewN | with_reducible apply below_drew1))) (Kd.S_reads' F2.out).2.1 (Kd.C_below (Kd.R_reads' F3.out).2.2 (by repeat (first | with_reducible exact Below.refl _ _ | with_reducible apply below_alloc | with_reducible refine below_set ?_ (Nat.le_refl _) | with_reducible apply pw_below_drewN | with_reducible apply below_drew1))) (Kd.R_reads' F3.out).2.1 (Kd.C_below (Kd.S_reads' F4.out).2.2 (by repeat (first | with_reducible exact Below.refl _ _ | with_reducible apply below_alloc | with_reducible refine below_set ?_ (Nat.le_refl _) | with_reducible apply pw_below_drewN | with_reducible apply below_drew1))) (Kd.S_reads' F4.out).2.1 (Kd.C_below (Kd.R_reads' F5.out).2.2 (by repeat (first | with_reducible exact Below.refl _ _ | with_reducible apply below_alloc | with_reducible refine below_set ?_ (Nat.le_refl _) | with_reducible apply pw_below_drewN | with_reducible apply below_drew1))) (Kd.R_reads' F5.out).2.1 He_impl.out).mono ?_
  rintro e w7 ⟨rfl, hb⟩
  clear czBK_aA_0 czBK_aA_1 czBK_aA_2 czBK_aB_0 czBK_aB_1 czBK_aB_2 czBK_x0_0 czBK_x0_1 czBK_x0_2
  have HN := Aside0.mk HB.out.size
  have BK_x1 := Aside0.mk (blk_below (g := w6.heap.size) (o := .cells #[.int .i64 a1_0, .slice A4_ l1_1.length c4_, .slice A5_ l1_2.length c5_] 29 (0, 0)) (by (repeat (first | with_reducible refine blk_drewN ?_ _ | with_reducible refine blk_drew ?_)); exact (blk_new _ _)) hb)
  have HG_BK_x1 : Aside0 (w6.heap.size < w7.heap.size) := ⟨blk_lt BK_x1.out⟩
  have HW := Aside0.mk (below_step (w := w6) (by repeat (first | with_reducible exact Below.refl _ _ | with_reducible apply below_alloc | with_reducible refine below_set ?_ (Nat.le_refl _) | with_reducible apply pw_below_drewN | with_reducible apply below_drew1)) hb)
  have HZ7 : Aside0 (w6.heap.size ≤ w7.heap.size) := ⟨HW.out.size⟩
  replace HB := Aside0.mk (below_step HB.out HW.out)
  replace F2 := Aside0.mk (Kd.S_below F2.out HW.out)
  replace F3 := Aside0.mk (Kd.R_below F3.out HW.out)
  replace F4 := Aside0.mk (Kd.S_below F4.out HW.out)
  replace F5 := Aside0.mk (Kd.R_below F5.out HW.out)
  replace BK_aA := Aside0.mk (blk_below BK_aA.out HW.out)
  replace BK_aB := Aside0.mk (blk_below BK_aB.out HW.out)
  replace BK_x0 := Aside0.mk (blk_below BK_x0.out HW.out)
  clear hb HW HN 
  have czBK_aA_0 : w7.cell? ⟨w.heap.size, 0, none⟩ = some (.int .i64 a0_0) := (blk_cell BK_aA.out 0).trans rfl
  have czBK_aA_1 : w7.cell? ⟨w.heap.size, 1, none⟩ = some (.slice A0_1 l0_1.length c0_1) := (blk_cell BK_aA.out 1).trans rfl
  have czBK_aA_2 : w7.cell? ⟨w.heap.size, 2, none⟩ = some (.slice A0_2 l0_2.length c0_2) := (blk_cell BK_aA.out 2).trans rfl
  have czBK_aB_0 : w7.cell? ⟨(w.heap.size + 1), 0, none⟩ = some (.int .i64 a1_0) := (blk_cell BK_aB.out 0).trans rfl
  have czBK_aB_1 : w7.cell? ⟨(w.heap.size + 1), 1, none⟩ = some (.slice A1_1 l1_1.length c1_1) := (blk_cell BK_aB.out 1).trans rfl
  have czBK_aB_2 : w7.cell? ⟨(w.heap.size + 1), 2, none⟩ = some (.slice A1_2 l1_2.length c1_2) := (blk_cell BK_aB.out 2).trans rfl
  have czBK_x0_0 : w7.cell? ⟨w5.heap.size, 0, none⟩ = some (.int .i64 a0_0) := (blk_cell BK_x0.out 0).trans rfl
  have czBK_x0_1 : w7.cell? ⟨w5.heap.size, 1, none⟩ = some (.slice A2_ l0_1.length c2_) := (blk_cell BK_x0.out 1).trans rfl
  have czBK_x0_2 : w7.cell? ⟨w5.heap.size, 2, none⟩ = some (.slice A3_ l0_2.length c3_) := (blk_cell BK_x0.out 2).trans rfl
  have czBK_x1_0 : w7.cell? ⟨w6.heap.size, 0, none⟩ = some (.int .i64 a1_0) := (blk_cell BK_x1.out 0).trans rfl
  have czBK_x1_1 : w7.cell? ⟨w6.heap.size, 1, none⟩ = some (.slice A4_ l1_1.length c4_) := (blk_cell BK_x1.out 1).trans rfl
  have czBK_x1_2 : w7.cell? ⟨w6.heap.size, 2, none⟩ = some (.slice A5_ l1_2.length c5_) := (blk_cell BK_x1.out 2).trans rfl
  go_wp2_with fail
  refine start_ (n := 5) (S := fun w' => w'.cell? ⟨w5.heap.size, 0, none⟩ = some (.int .i64 a0_0) ∧ w'.cell? ⟨w5.heap.size, 1, none⟩ = some (.slice A2_ l0_1.length c2_) ∧ w'.cell? ⟨w5.heap.size, 2, none⟩ = some (.slice A3_ l0_2.length c3_) ∧ w'.cell? ⟨w.heap.size, 0, none⟩ = some (.int .i64 a0_0) ∧ w'.cell? ⟨w.heap.size, 1, none⟩ = some (.slice A0_1 l0_1.length c0_1) ∧ w'.cell? ⟨w.heap.size, 2, none⟩ = some (.slice A0_2 l0_2.length c0_2)) (ds := []) #[false, false, false, false, false] (by kernel_rfl) rfl rfl ⟨(blk_cell BK_x0.out 0).trans rfl, (blk_cell BK_x0.out 1).trans rfl, (blk_cell BK_x0.out 2).trans rfl, (blk_cell BK_aA.out 0).trans rfl, (blk_cell BK_aA.out 1).trans rfl, (blk_cell BK_aA.out 2).trans rfl⟩ (fun hHeld => ?_)
  refine Own.anew_ (wN := w7) (by repeat (first | with_reducible exact Below.refl _ _ | with_reducible apply below_alloc | with_reducible refine below_set ?_ (Nat.le_refl _) | with_reducible apply pw_below_drewN | with_reducible apply below_drew1)) hHeld (fun w8 hb hHeld => ?_)
  clear czBK_aA_0 czBK_aA_1 czBK_aA_2 czBK_aB_0 czBK_aB_1 czBK_aB_2 czBK_x0_0 czBK_x0_1 czBK_x0_2 czBK_x1_0 czBK_x1_1 czBK_x1_2
  have HW := Aside0.mk hb
  have HZ8 : Aside0 (w7.heap.size ≤ w8.heap.size) := ⟨HW.out.size⟩
  replace HB := Aside0.mk (below_step HB.out HW.out)
  replace F2 := Aside0.mk (Kd.S_below F2.out HW.out)
  replace F3 := Aside0.mk (Kd.R_below F3.out HW.out)
  replace F4 := Aside0.mk (Kd.S_below F4.out HW.out)
  replace F5 := Aside0.mk (Kd.R_below F5.out HW.out)
  replace BK_aA := Aside0.mk (blk_below BK_aA.out HW.out)
  replace BK_aB := Aside0.mk (blk_below BK_aB.out HW.out)
  replace BK_x0 := Aside0.mk (blk_below BK_x0.out HW.out)
  replace BK_x1 := Aside0.mk (blk_below BK_x1.out HW.out)
  clear hb HW
  refine take_ (i := 0) (N := some 48) (v := ?_) (a' := ?_) #[true, false, false, false, false] rfl rfl (by kernel_rfl) (fun _ _ _ h => h) (Or.inl ⟨by rfl, ?_⟩) hHeld ?_ ?_
  rotate_left
  · rintro w' ⟨s0_, s1_, s2_, s3_, s4_, s5_⟩
    go_simp
    with_reducible rfl
  rotate_left
  · simp only [Act.put, List.setIfInBounds_toArray, List.set_cons_zero, List.set_cons_succ, i64_w, i32_w]
    rfl
  refine take_ (i := 1) (N := some 49) (v := ?_) (a' := ?_) #[true, true, false, false, false] rfl rfl (by kernel_rfl) (fun _ _ _ h => h) (Or.inl ⟨by rfl, ?_⟩) hHeld ?_ ?_
  rotate_left
  · rintro w' ⟨s0_, s1_, s2_, s3_, s4_, s5_⟩
    go_simp
    with_reducible rfl
  rotate_left
  · simp only [Act.put, List.setIfInBounds_toArray, List.set_cons_zero, List.set_cons_succ, i64_w, i32_w]
    rfl
  refine one_ (i := 2) (N := some 50) #[true, true, true, false, false] rfl rfl (by kernel_rfl) (by decide) (fun K hK => ?_)
  refine goes_ Try.func10 (by kernel_rfl) rfl #[.agg #[.int .i64 a0_0, .slice A0_1 l0_1.length c0_1, .slice A0_2 l0_2.length c0_2]] (by rfl) rfl rfl (by (try simp only [List.map_toArray, List.map_cons, List.map_nil]); first | done | rfl | (simp only [List.length_drop, List.length_take]; rfl)) ?_
  with_reducible refine (laws_toAutomaton.calls k _ _ _ _ _ _ _ _ _ _ _ (Kd.C_below HR0_1.out (below_step HB.out (by repeat (first | with_reducible exact Below.refl _ _ | with_reducible apply below_alloc | with_reducible refine below_set ?_ (Nat.le_refl _) | with_reducible apply pw_below_drewN | with_reducible apply below_drew1)))) HC0_1.out (Kd.C_below HR0_2.out (below_step HB.out (by repeat (first | with_reducible exact Below.refl _ _ | with_reducible apply below_alloc | with_reducible refine below_set ?_ (Nat.le_refl _) | with_reducible apply pw_below_drewN | with_reducible apply below_drew1)))) HC0_2.out He_to_aA.out).mono ?_
  rintro e w9 ⟨vq8_0, vq8_1, rfl, hf6, hf7, hb⟩
  refine ⟨_, rfl, ?_⟩
  have HN := Aside0.mk HB.out.size
  have HW := Aside0.mk (below_step (w := w8) (by repeat (first | with_reducible exact Below.refl _ _ | with_reducible apply below_alloc | with_reducible refine below_set ?_ (Nat.le_refl _) | with_reducible apply pw_below_drewN | with_reducible apply below_drew1)) hb)
  have HZ9 : Aside0 (w8.heap.size ≤ w9.heap.size) := ⟨HW.out.size⟩
  replace HB := Aside0.mk (below_step HB.out HW.out)
  replace F2 := Aside0.mk (Kd.S_below F2.out HW.out)
  replace F3 := Aside0.mk (Kd.R_below F3.out HW.out)
  replace F4 := Aside0.mk (Kd.S_below F4.out HW.out)
  replace F5 := Aside0.mk (Kd.R_below F5.out HW.out)
  replace BK_aA := Aside0.mk (blk_below BK_aA.out HW.out)
  replace BK_aB := Aside0.mk (blk_below BK_aB.out HW.out)
  replace BK_x0 := Aside0.mk (blk_below BK_x0.out HW.out)
  replace BK_x1 := Aside0.mk (blk_below BK_x1.out HW.out)
  obtain ⟨lo6_, F6, HLO6⟩ := Own.S_iv (wN := w8) hf6 HN.out (by repeat (first | with_reducible exact Below.refl _ _ | with_reducible apply below_alloc | with_reducible refine below_set ?_ (Nat.le_refl _) | with_reducible apply pw_below_drewN | with_reducible apply below_drew1)) hb
  obtain ⟨lo7_, F7, HLO7⟩ := Own.R_iv (wN := w8) rfl hf7 HN.out (by repeat (first | with_reducible exact Below.refl _ _ | with_reducible apply below_alloc | with_reducible refine below_set ?_ (Nat.le_refl _) | with_reducible apply pw_below_drewN | with_reducible apply below_drew1)) hb
  obtain ⟨A6_, c6_, e6_⟩ := Kd.S_slice F6.out
  subst e6_
  obtain ⟨A7_, c7_, e7_⟩ := Kd.R_slice F7.out
  subst e7_
  clear hb HW HN hf6 hf7
  refine hK.out _ _ ⟨(blk_cell BK_x0.out 0).trans rfl, (blk_cell BK_x0.out 1).trans rfl, (blk_cell BK_x0.out 2).trans rfl, (blk_cell BK_aA.out 0).trans rfl, (blk_cell BK_aA.out 1).trans rfl, (blk_cell BK_aA.out 2).trans rfl⟩ (fun hHeld => ?_)
  clear hK K
  refine norm_ (a' := ?_) ?_ ?_
  rotate_left
  · show Act.put _ (some 50) _ = _
    simp only [Act.put, List.setIfInBounds_toArray, List.set_cons_zero, List.set_cons_succ, i64_w, i32_w]
    rfl
  refine one_ (i := 3) (N := some 51) #[true, true, true, true, false] rfl rfl (by kernel_rfl) (by decide) (fun K hK => ?_)
  refine goes_ Try.func12 (by kernel_rfl) rfl #[.agg #[.int .i64 a0_0, .slice A2_ l0_1.length c2_, .slice A3_ l0_2.length c3_], .agg #[.int .i64 a0_0, .slice A6_ l0_1.length c6_, .slice A7_ l0_2.length c7_]] (by rfl) rfl rfl (by (try simp only [List.map_toArray, List.map_cons, List.map_nil]); first | done | rfl | (simp only [List.length_drop, List.length_take]; rfl)) ?_
  with_reducible refine (laws_eqAutomaton.calls k _ _ _ _ _ _ _ _ _ _ _ _ _ _ _ _ (Kd.C_below (Kd.S_reads' F2.out).2.2 (by repeat (first | with_reducible exact Below.refl _ _ | with_reducible apply below_alloc | with_reducible refine below_set ?_ (Nat.le_refl _) | with_reducible apply pw_below_drewN | with_reducible apply below_drew1))) (Kd.S_reads' F2.out).2.1 (Kd.C_below (Kd.R_reads' F3.out).2.2 (by repeat (first | with_reducible exact Below.refl _ _ | with_reducible apply below_alloc | with_reducible refine below_set ?_ (Nat.le_refl _) | with_reducible apply pw_below_drewN | with_reducible apply below_drew1))) (Kd.R_reads' F3.out).2.1 (Kd.C_below (Kd.S_reads' F6.out).2.2 (by repeat (first | with_reducible exact Below.refl _ _ | with_reducible apply below_alloc | with_reducible refine below_set ?_ (Nat.le_refl _) | with_reducible apply pw_below_drewN | with_reducible apply below_drew1))) (Kd.S_reads' F6.out).2.1 (Kd.C_below (Kd.R_reads' F7.out).2.2 (by repeat (first | with_reducible exact Below.refl _ _ | with_reducible apply below_alloc | with_reducible refine below_set ?_ (Nat.le_refl _) | with_reducible apply pw_below_drewN | with_reducible apply below_drew1))) (Kd.R_reads' F7.out).2.1 He_eq_x0.out).mono ?_
  rintro e w10 ⟨rfl, hb⟩
  refine ⟨_, rfl, ?_⟩
  have HW := Aside0.mk (below_step (w := w9) (by repeat (first | with_reducible exact Below.refl _ _ | with_reducible apply below_alloc | with_reducible refine below_set ?_ (Nat.le_refl _) | with_reducible apply pw_below_drewN | with_reducible apply below_drew1)) hb)
  have HZ10 : Aside0 (w9.heap.size ≤ w10.heap.size) := ⟨HW.out.size⟩
  replace HB := Aside0.mk (below_step HB.out HW.out)
  replace F2 := Aside0.mk (Kd.S_below F2.out HW.out)
  replace F3 := Aside0.mk (Kd.R_below F3.out HW.out)
  replace F4 := Aside0.mk (Kd.S_below F4.out HW.out)
  replace F5 := Aside0.mk (Kd.R_below F5.out HW.out)
  replace BK_aA := Aside0.mk (blk_below BK_aA.out HW.out)
  replace BK_aB := Aside0.mk (blk_below BK_aB.out HW.out)
  replace BK_x0 := Aside0.mk (blk_below BK_x0.out HW.out)
  replace BK_x1 := Aside0.mk (blk_below BK_x1.out HW.out)
  clear hb HW
  refine hK.out _ _ ⟨(blk_cell BK_x0.out 0).trans rfl, (blk_cell BK_x0.out 1).trans rfl, (blk_cell BK_x0.out 2).trans rfl, (blk_cell BK_aA.out 0).trans rfl, (blk_cell BK_aA.out 1).trans rfl, (blk_cell BK_aA.out 2).trans rfl⟩ (fun hHeld => ?_)
  clear hK K
  refine norm_ (a' := ?_) ?_ ?_
  rotate_left
  · show Act.put _ (some 51) _ = _
    simp only [Act.put, List.setIfInBounds_toArray, List.set_cons_zero, List.set_cons_succ, i64_w, i32_w]
    rfl
  refine pure_ (i := 4) (N := some 52) (v := ?_) (a' := ?_) #[true, true, true, true, true] rfl rfl (by kernel_rfl) (fun _ _ _ h => h) (Or.inl ⟨by rfl, ?_⟩) ?_ ?_
  rotate_left
  · intro w'
    go_simp
    with_reducible rfl
  rotate_left
  · simp only [Act.put, List.setIfInBounds_toArray, List.set_cons_zero, List.set_cons_succ, i64_w, i32_w]
    rfl
  refine done_ (by kernel_rfl) ?_
  clear hHeld
  have czBK_aA_0 : w10.cell? ⟨w.heap.size, 0, none⟩ = some (.int .i64 a0_0) := (blk_cell BK_aA.out 0).trans rfl
  have czBK_aA_1 : w10.cell? ⟨w.heap.size, 1, none⟩ = some (.slice A0_1 l0_1.length c0_1) := (blk_cell BK_aA.out 1).trans rfl
  have czBK_aA_2 : w10.cell? ⟨w.heap.size, 2, none⟩ = some (.slice A0_2 l0_2.length c0_2) := (blk_cell BK_aA.out 2).trans rfl
  have czBK_aB_0 : w10.cell? ⟨(w.heap.size + 1), 0, none⟩ = some (.int .i64 a1_0) := (blk_cell BK_aB.out 0).trans rfl
  have czBK_aB_1 : w10.cell? ⟨(w.heap.size + 1), 1, none⟩ = some (.slice A1_1 l1_1.length c1_1) := (blk_cell BK_aB.out 1).trans rfl
  have czBK_aB_2 : w10.cell? ⟨(w.heap.size + 1), 2, none⟩ = some (.slice A1_2 l1_2.length c1_2) := (blk_cell BK_aB.out 2).trans rfl
  have czBK_x0_0 : w10.cell? ⟨w5.heap.size, 0, none⟩ = some (.int .i64 a0_0) := (blk_cell BK_x0.out 0).trans rfl
  have czBK_x0_1 : w10.cell? ⟨w5.heap.size, 1, none⟩ = some (.slice A2_ l0_1.length c2_) := (blk_cell BK_x0.out 1).trans rfl
  have czBK_x0_2 : w10.cell? ⟨w5.heap.size, 2, none⟩ = some (.slice A3_ l0_2.length c3_) := (blk_cell BK_x0.out 2).trans rfl
  have czBK_x1_0 : w10.cell? ⟨w6.heap.size, 0, none⟩ = some (.int .i64 a1_0) := (blk_cell BK_x1.out 0).trans rfl
  have czBK_x1_1 : w10.cell? ⟨w6.heap.size, 1, none⟩ = some (.slice A4_ l1_1.length c4_) := (blk_cell BK_x1.out 1).trans rfl
  have czBK_x1_2 : w10.cell? ⟨w6.heap.size, 2, none⟩ = some (.slice A5_ l1_2.length c5_) := (blk_cell BK_x1.out 2).trans rfl
  go_wp2_with fail
  refine start_ (n := 5) (S := fun w' => w'.cell? ⟨w6.heap.size, 0, none⟩ = some (.int .i64 a1_0) ∧ w'.cell? ⟨w6.heap.size, 1, none⟩ = some (.slice A4_ l1_1.length c4_) ∧ w'.cell? ⟨w6.heap.size, 2, none⟩ = some (.slice A5_ l1_2.length c5_) ∧ w'.cell? ⟨(w.heap.size + 1), 0, none⟩ = some (.int .i64 a1_0) ∧ w'.cell? ⟨(w.heap.size + 1), 1, none⟩ = some (.slice A1_1 l1_1.length c1_1) ∧ w'.cell? ⟨(w.heap.size + 1), 2, none⟩ = some (.slice A1_2 l1_2.length c1_2)) (ds := []) #[false, false, false, false, false] (by kernel_rfl) rfl rfl ⟨(blk_cell BK_x1.out 0).trans rfl, (blk_cell BK_x1.out 1).trans rfl, (blk_cell BK_x1.out 2).trans rfl, (blk_cell BK_aB.out 0).trans rfl, (blk_cell BK_aB.out 1).trans rfl, (blk_cell BK_aB.out 2).trans rfl⟩ (fun hHeld => ?_)
  refine Own.anew_ (wN := w10) (by repeat (first | with_reducible exact Below.refl _ _ | with_reducible apply below_alloc | with_reducible refine below_set ?_ (Nat.le_refl _) | with_reducible apply pw_below_drewN | with_reducible apply below_drew1)) hHeld (fun w11 hb hHeld => ?_)
  clear czBK_aA_0 czBK_aA_1 czBK_aA_2 czBK_aB_0 czBK_aB_1 czBK_aB_2 czBK_x0_0 czBK_x0_1 czBK_x0_2 czBK_x1_0 czBK_x1_1 czBK_x1_2
  have HW := Aside0.mk hb
  have HZ11 : Aside0 (w10.heap.size ≤ w11.heap.size) := ⟨HW.out.size⟩
  replace HB := Aside0.mk (below_step HB.out HW.out)
  replace F2 := Aside0.mk (Kd.S_below F2.out HW.out)
  replace F3 := Aside0.mk (Kd.R_below F3.out HW.out)
  replace F4 := Aside0.mk (Kd.S_below F4.out HW.out)
  replace F5 := Aside0.mk (Kd.R_below F5.out HW.out)
  replace BK_aA := Aside0.mk (blk_below BK_aA.out HW.out)
  replace BK_aB := Aside0.mk (blk_below BK_aB.out HW.out)
  replace BK_x0 := Aside0.mk (blk_below BK_x0.out HW.out)
  replace BK_x1 := Aside0.mk (blk_below BK_x1.out HW.out)
  clear hb HW
  refine take_ (i := 0) (N := some 53) (v := ?_) (a' := ?_) #[true, false, false, false, false] rfl rfl (by kernel_rfl) (fun _ _ _ h => h) (Or.inl ⟨by rfl, ?_⟩) hHeld ?_ ?_
  rotate_left
  · rintro w' ⟨s0_, s1_, s2_, s3_, s4_, s5_⟩
    go_simp
    with_reducible rfl
  rotate_left
  · simp only [Act.put, List.setIfInBounds_toArray, List.set_cons_zero, List.set_cons_succ, i64_w, i32_w]
    rfl
  refine take_ (i := 1) (N := some 54) (v := ?_) (a' := ?_) #[true, true, false, false, false] rfl rfl (by kernel_rfl) (fun _ _ _ h => h) (Or.inl ⟨by rfl, ?_⟩) hHeld ?_ ?_
  rotate_left
  · rintro w' ⟨s0_, s1_, s2_, s3_, s4_, s5_⟩
    go_simp
    with_reducible rfl
  rotate_left
  · simp only [Act.put, List.setIfInBounds_toArray, List.set_cons_zero, List.set_cons_succ, i64_w, i32_w]
    rfl
  refine one_ (i := 2) (N := some 55) #[true, true, true, false, false] rfl rfl (by kernel_rfl) (by decide) (fun K hK => ?_)
  refine goes_ Try.func10 (by kernel_rfl) rfl #[.agg #[.int .i64 a1_0, .slice A1_1 l1_1.length c1_1, .slice A1_2 l1_2.length c1_2]] (by rfl) rfl rfl (by (try simp only [List.map_toArray, List.map_cons, List.map_nil]); first | done | rfl | (simp only [List.length_drop, List.length_take]; rfl)) ?_
  with_reducible refine (laws_toAutomaton.calls k _ _ _ _ _ _ _ _ _ _ _ (Kd.C_below HR1_1.out (below_step HB.out (by repeat (first | with_reducible exact Below.refl _ _ | with_reducible apply below_alloc | with_reducible refine below_set ?_ (Nat.le_refl _) | with_reducible apply pw_below_drewN | with_reducible apply below_drew1)))) HC1_1.out (Kd.C_below HR1_2.out (below_step HB.out (by repeat (first | with_reducible exact Below.refl _ _ | with_reducible apply below_alloc | with_reducible refine below_set ?_ (Nat.le_refl _) | with_reducible apply pw_below_drewN | with_reducible apply below_drew1)))) HC1_2.out He_to_aB.out).mono ?_
  rintro e w12 ⟨vq11_0, vq11_1, rfl, hf8, hf9, hb⟩
  refine ⟨_, rfl, ?_⟩
  have HN := Aside0.mk HB.out.size
  have HW := Aside0.mk (below_step (w := w11) (by repeat (first | with_reducible exact Below.refl _ _ | with_reducible apply below_alloc | with_reducible refine below_set ?_ (Nat.le_refl _) | with_reducible apply pw_below_drewN | with_reducible apply below_drew1)) hb)
  have HZ12 : Aside0 (w11.heap.size ≤ w12.heap.size) := ⟨HW.out.size⟩
  replace HB := Aside0.mk (below_step HB.out HW.out)
  replace F2 := Aside0.mk (Kd.S_below F2.out HW.out)
  replace F3 := Aside0.mk (Kd.R_below F3.out HW.out)
  replace F4 := Aside0.mk (Kd.S_below F4.out HW.out)
  replace F5 := Aside0.mk (Kd.R_below F5.out HW.out)
  replace BK_aA := Aside0.mk (blk_below BK_aA.out HW.out)
  replace BK_aB := Aside0.mk (blk_below BK_aB.out HW.out)
  replace BK_x0 := Aside0.mk (blk_below BK_x0.out HW.out)
  replace BK_x1 := Aside0.mk (blk_below BK_x1.out HW.out)
  obtain ⟨lo8_, F8, HLO8⟩ := Own.S_iv (wN := w11) hf8 HN.out (by repeat (first | with_reducible exact Below.refl _ _ | with_reducible apply below_alloc | with_reducible refine below_set ?_ (Nat.le_refl _) | with_reducible apply pw_below_drewN | with_reducible apply below_drew1)) hb
  obtain ⟨lo9_, F9, HLO9⟩ := Own.R_iv (wN := w11) rfl hf9 HN.out (by repeat (first | with_reducible exact Below.refl _ _ | with_reducible apply below_alloc | with_reducible refine below_set ?_ (Nat.le_refl _) | with_reducible apply pw_below_drewN | with_reducible apply below_drew1)) hb
  obtain ⟨A8_, c8_, e8_⟩ := Kd.S_slice F8.out
  subst e8_
  obtain ⟨A9_, c9_, e9_⟩ := Kd.R_slice F9.out
  subst e9_
  clear hb HW HN hf8 hf9
  refine hK.out _ _ ⟨(blk_cell BK_x1.out 0).trans rfl, (blk_cell BK_x1.out 1).trans rfl, (blk_cell BK_x1.out 2).trans rfl, (blk_cell BK_aB.out 0).trans rfl, (blk_cell BK_aB.out 1).trans rfl, (blk_cell BK_aB.out 2).trans rfl⟩ (fun hHeld => ?_)
  clear hK K
  refine norm_ (a' := ?_) ?_ ?_
  rotate_left
  · show Act.put _ (some 55) _ = _
    simp only [Act.put, List.setIfInBounds_toArray, List.set_cons_zero, List.set_cons_succ, i64_w, i32_w]
    rfl
  refine one_ (i := 3) (N := some 56) #[true, true, true, true, false] rfl rfl (by kernel_rfl) (by decide) (fun K hK => ?_)
  refine goes_ Try.func12 (by kernel_rfl) rfl #[.agg #[.int .i64 a1_0, .slice A4_ l1_1.length c4_, .slice A5_ l1_2.length c5_], .agg #[.int .i64 a1_0, .slice A8_ l1_1.length c8_, .slice A9_ l1_2.length c9_]] (by rfl) rfl rfl (by (try simp only [List.map_toArray, List.map_cons, List.map_nil]); first | done | rfl | (simp only [List.length_drop, List.length_take]; rfl)) ?_
  with_reducible refine (laws_eqAutomaton.calls k _ _ _ _ _ _ _ _ _ _ _ _ _ _ _ _ (Kd.C_below (Kd.S_reads' F4.out).2.2 (by repeat (first | with_reducible exact Below.refl _ _ | with_reducible apply below_alloc | with_reducible refine below_set ?_ (Nat.le_refl _) | with_reducible apply pw_below_drewN | with_reducible apply below_drew1))) (Kd.S_reads' F4.out).2.1 (Kd.C_below (Kd.R_reads' F5.out).2.2 (by repeat (first | with_reducible exact Below.refl _ _ | with_reducible apply below_alloc | with_reducible refine below_set ?_ (Nat.le_refl _) | with_reducible apply pw_below_drewN | with_reducible apply below_drew1))) (Kd.R_reads' F5.out).2.1 (Kd.C_below (Kd.S_reads' F8.out).2.2 (by repeat (first | with_reducible exact Below.refl _ _ | with_reducible apply below_alloc | with_reducible refine below_set ?_ (Nat.le_refl _) | with_reducible apply pw_below_drewN | with_reducible apply below_drew1))) (Kd.S_reads' F8.out).2.1 (Kd.C_below (Kd.R_reads' F9.out).2.2 (by repeat (first | with_reducible exact Below.refl _ _ | with_reducible apply below_alloc | with_reducible refine below_set ?_ (Nat.le_refl _) | with_reducible apply pw_below_drewN | with_reducible apply below_drew1))) (Kd.R_reads' F9.out).2.1 He_eq_x1.out).mono ?_
  rintro e w13 ⟨rfl, hb⟩
  refine ⟨_, rfl, ?_⟩
  have HW := Aside0.mk (below_step (w := w12) (by repeat (first | with_reducible exact Below.refl _ _ | with_reducible apply below_alloc | with_reducible refine below_set ?_ (Nat.le_refl _) | with_reducible apply pw_below_drewN | with_reducible apply below_drew1)) hb)
  have HZ13 : Aside0 (w12.heap.size ≤ w13.heap.size) := ⟨HW.out.size⟩
  replace HB := Aside0.mk (below_step HB.out HW.out)
  replace F2 := Aside0.mk (Kd.S_below F2.out HW.out)
  replace F3 := Aside0.mk (Kd.R_below F3.out HW.out)
  replace F4 := Aside0.mk (Kd.S_below F4.out HW.out)
  replace F5 := Aside0.mk (Kd.R_below F5.out HW.out)
  replace BK_aA := Aside0.mk (blk_below BK_aA.out HW.out)
  replace BK_aB := Aside0.mk (blk_below BK_aB.out HW.out)
  replace BK_x0 := Aside0.mk (blk_below BK_x0.out HW.out)
  replace BK_x1 := Aside0.mk (blk_below BK_x1.out HW.out)
  clear hb HW
  refine hK.out _ _ ⟨(blk_cell BK_x1.out 0).trans rfl, (blk_cell BK_x1.out 1).trans rfl, (blk_cell BK_x1.out 2).trans rfl, (blk_cell BK_aB.out 0).trans rfl, (blk_cell BK_aB.out 1).trans rfl, (blk_cell BK_aB.out 2).trans rfl⟩ (fun hHeld => ?_)
  clear hK K
  refine norm_ (a' := ?_) ?_ ?_
  rotate_left
  · show Act.put _ (some 56) _ = _
    simp only [Act.put, List.setIfInBounds_toArray, List.set_cons_zero, List.set_cons_succ, i64_w, i32_w]
    rfl
  refine pure_ (i := 4) (N := some 57) (v := ?_) (a' := ?_) #[true, true, true, true, true] rfl rfl (by kernel_rfl) (fun _ _ _ h => h) (Or.inl ⟨by rfl, ?_⟩) ?_ ?_
  rotate_left
  · intro w'
    go_simp
    with_reducible rfl
  rotate_left
  · simp only [Act.put, List.setIfInBounds_toArray, List.set_cons_zero, List.set_cons_succ, i64_w, i32_w]
    rfl
  refine done_ (by kernel_rfl) ?_
  clear hHeld
  have czBK_aA_0 : w13.cell? ⟨w.heap.size, 0, none⟩ = some (.int .i64 a0_0) := (blk_cell BK_aA.out 0).trans rfl
  have czBK_aA_1 : w13.cell? ⟨w.heap.size, 1, none⟩ = some (.slice A0_1 l0_1.length c0_1) := (blk_cell BK_aA.out 1).trans rfl
  have czBK_aA_2 : w13.cell? ⟨w.heap.size, 2, none⟩ = some (.slice A0_2 l0_2.length c0_2) := (blk_cell BK_aA.out 2).trans rfl
  have czBK_aB_0 : w13.cell? ⟨(w.heap.size + 1), 0, none⟩ = some (.int .i64 a1_0) := (blk_cell BK_aB.out 0).trans rfl
  have czBK_aB_1 : w13.cell? ⟨(w.heap.size + 1), 1, none⟩ = some (.slice A1_1 l1_1.length c1_1) := (blk_cell BK_aB.out 1).trans rfl
  have czBK_aB_2 : w13.cell? ⟨(w.heap.size + 1), 2, none⟩ = some (.slice A1_2 l1_2.length c1_2) := (blk_cell BK_aB.out 2).trans rfl
  have czBK_x0_0 : w13.cell? ⟨w5.heap.size, 0, none⟩ = some (.int .i64 a0_0) := (blk_cell BK_x0.out 0).trans rfl
  have czBK_x0_1 : w13.cell? ⟨w5.heap.size, 1, none⟩ = some (.slice A2_ l0_1.length c2_) := (blk_cell BK_x0.out 1).trans rfl
  have czBK_x0_2 : w13.cell? ⟨w5.heap.size, 2, none⟩ = some (.slice A3_ l0_2.length c3_) := (blk_cell BK_x0.out 2).trans rfl
  have czBK_x1_0 : w13.cell? ⟨w6.heap.size, 0, none⟩ = some (.int .i64 a1_0) := (blk_cell BK_x1.out 0).trans rfl
  have czBK_x1_1 : w13.cell? ⟨w6.heap.size, 1, none⟩ = some (.slice A4_ l1_1.length c4_) := (blk_cell BK_x1.out 1).trans rfl
  have czBK_x1_2 : w13.cell? ⟨w6.heap.size, 2, none⟩ = some (.slice A5_ l1_2.length c5_) := (blk_cell BK_x1.out 2).trans rfl
  go_wp2_with fail
  go_ret
  exact ⟨rfl, below_step HB.out (by repeat (first | with_reducible exact Below.refl _ _ | with_reducible apply below_alloc | with_reducible refine below_set ?_ (Nat.le_refl _) | with_reducible apply pw_below_drewN | with_reducible apply below_drew1))⟩
end Go.Proofs.Ytadhbepoblllhaa.P
end

section
/- FnExactAreEqual: the program's AreEqual returns what the reference's returns, for all pairs of automata that are not greater than 2^20 numbers (as the law's own guard says). -/
namespace Go.Proofs.Ytadhbepoblllhaa.A
open Go.RowKit Go.Proofs.YtadhbepoblllhaaW.PrintWords Go.Proofs.YtadhbepoblllhaaW.PrintLast Go.Proofs.YtadhbepoblllhaaW.PrintMore Go.Proofs.Ytadhbepoblllhaa.P Go.Proofs.Ytadhbepoblllhaa.T
set_option linter.unusedVariables false
section
variable {L L2 : Int} {A B : List (List Int)} {F G : List Int}
theorem specAreEqual (hA : AuSm A F) (hB : AuSm B G) : Ev (fun k => spec_AreEqual.f k L A F L2 B G) (resTwo 3 L A F L2 B G) := by
  unfold spec_AreEqual.f resTwo
  refine ev_bind (eqTwo hA hB) ?_
  by_cases h : PairOk 3 L A F L2 B G
  · rw [if_pos h]
    exact ev_pos (by simpa using h) (ev_bind (eqWordE h.two (AuOk.zero h.2.1 h.2.2.1) hA.max.2.2 hB.max.2.2) (ev_const rfl))
  · rw [if_neg h]
    exact ev_neg (by simpa using h) (ev_const rfl)
theorem implAreEqual (hA : AuSm A F) (hB : AuSm B G) : Ev (fun k => impl_AreEqual.f k L A F L2 B G) (resTwo 3 L A F L2 B G) := by
  unfold impl_AreEqual.f
  exact ev_const (if_pos ⟨hA, hB⟩)
end
theorem lawFnExactAreEqual (a0_0 : Int) (A0_1 : Option Addr) (c0_1 : Nat) (l0_1 : List (List Int)) (A0_2 : Option Addr) (c0_2 : Nat) (l0_2 : List Int) (a1_0 : Int) (A1_1 : Option Addr) (c1_1 : Nat) (l1_1 : List (List Int)) (A1_2 : Option Addr) (c1_2 : Nat) (l1_2 : List Int) (w : World) (h1 : Kd.C (Kd.slice 3 (Kd.int .i64)) w A0_1 l0_1.length l0_1) (hc1 : l0_1.length ≤ c0_1) (h2 : Kd.C (Kd.int .i64) w A0_2 l0_2.length l0_2) (hc2 : l0_2.length ≤ c0_2) (h3 : Kd.C (Kd.slice 3 (Kd.int .i64)) w A1_1 l1_1.length l1_1) (hc3 : l1_1.length ≤ c1_1) (h4 : Kd.C (Kd.int .i64) w A1_2 l1_2.length l1_2) (hc4 : l1_2.length ≤ c1_2)
    (hN : l0_1.length ≤ maxLen) (hr : ∀ x ∈ l0_1, x.length ≤ maxLen) (hF : l0_2.length ≤ maxLen) (hN2 : l1_1.length ≤ maxLen) (hr2 : ∀ x ∈ l1_1, x.length ≤ maxLen) (hF2 : l1_2.length ≤ maxLen) :
    Calls Try.prog 3 #[.agg #[.int .i64 a0_0, .slice A0_1 l0_1.length c0_1, .slice A0_2 l0_2.length c0_2], .agg #[.int .i64 a1_0, .slice A1_1 l1_1.length c1_1, .slice A1_2 l1_2.length c1_2]] w fun e w' => e = .returned (.bool true) ∧ Below w.heap.size w w' := by
  obtain ⟨s, ⟨K0, e0⟩, hsm⟩ := szAu a0_0 l0_1 l0_2 hN hr hF
  by_cases hs : s < 0
  · exact FnExactAreEqual_small0 K0 _ _ _ _ _ _ _ _ _ _ _ _ _ _ s w h1 hc1 h2 hc2 h3 hc3 h4 hc4 (e0 K0 (Nat.le_refl _)) hs
  obtain ⟨gs, g1, g2, g3⟩ := hsm (by omega)
  obtain ⟨s2, ⟨K9, e9⟩, hsm2⟩ := szAuA a1_0 l1_1 l1_2 s ⟨by omega, gs⟩ hN2 hr2 hF2
  by_cases hs2 : s2 < 0
  · exact FnExactAreEqual_small1 (K0 + K9) _ _ _ _ _ _ _ _ _ _ _ _ _ _ s s2 w h1 hc1 h2 hc2 h3 hc3 h4 hc4 (e0 _ (by omega)) (by omega) (e9 _ (by omega)) hs2
  obtain ⟨_, g4, g5, g6⟩ := hsm2 (by omega)
  obtain ⟨K1, e1⟩ := toAu a0_0 l0_1 l0_2 g1 g2 g3
  obtain ⟨K2, e2⟩ := toAu a1_0 l1_1 l1_2 g4 g5 g6
  obtain ⟨K3, e3⟩ := specAreEqual (L := a0_0) (L2 := a1_0) (A := l0_1) (F := l0_2) (B := l1_1) (G := l1_2) ⟨g1, g2, g3⟩ ⟨g4, g5, g6⟩
  obtain ⟨K4, e4⟩ := implAreEqual (L := a0_0) (L2 := a1_0) (A := l0_1) (F := l0_2) (B := l1_1) (G := l1_2) ⟨g1, g2, g3⟩ ⟨g4, g5, g6⟩
  obtain ⟨⟨t0, t1⟩, ht⟩ : ∃ t, t = resTwo 3 a0_0 l0_1 l0_2 a1_0 l1_1 l1_2 := ⟨_, rfl⟩
  rw [← ht] at e3 e4
  obtain ⟨K5, e5⟩ := eqAu a0_0 l0_1 l0_2 hN hr hF
  obtain ⟨K6, e6⟩ := eqAu a1_0 l1_1 l1_2 hN2 hr2 hF2
  exact FnExactAreEqual_walk (K0 + K1 + K2 + K3 + K4 + K5 + K6 + K9) _ _ _ _ _ _ _ _ _ _ _ _ _ _ s s2 t0 t1 w h1 hc1 h2 hc2 h3 hc3 h4 hc4 (e0 _ (by omega)) (by omega) (e9 _ (by omega)) (by omega) (e1 _ (by omega)) (e2 _ (by omega)) (e3 _ (by omega)) (e4 _ (by omega)) (e5 _ (by omega)) (e6 _ (by omega))
end Go.Proofs.Ytadhbepoblllhaa.A
end

section
/- Opens an argument that a row reads as data into the cells and lists that a contract speaks of: whole numbers, slices, structs of two and three fields. -/
namespace Go.Proofs.Ytadhbepoblllhaa.Op
open Go.ChangeShapes Go.WideShapes Go.Deep Go.RowKit Go.Proofs.YtadhbepoblllhaaW.PrintWords
set_option linter.unusedVariables false

/-- What reads as data of type t is of kind d, and meets wf. -/
def Opens (P : Program) (t : TypeId) {α : Type} (d : Kd α) (wf : α → Prop) : Prop :=
  ∀ {H : Type} {enc : TypeId × Value → H} {w : World} {base : Nat} {spare : Nat → Bool} {held : Bool} {fuel : Nat} {cs : List Value} {x : DataW H × List MemPlace},
    DataW.trod enc P w base spare held fuel t cs = some x → ∃ a, d.K w a cs ∧ wf a

def WNum (k : IntKind) (n : Int) : Prop := (Lit.int k n).wf = true
abbrev WInt : Int → Prop := WNum .i64
def WList {α : Type} (wf : α → Prop) (l : List α) : Prop := l.length ≤ maxLen ∧ ∀ a ∈ l, wf a

theorem opens_int {P : Program} {t : TypeId} {k : IntKind} (h : P.underlying t = some (.int k)) : Opens P t (Kd.int k) (WNum k) := by
  intro H enc w base spare held fuel cs x ht
  obtain ⟨n, rfl, _, hw⟩ := DataW.trod_int h ht
  exact ⟨n, rfl, hw⟩

theorem opens_slice {P : Program} {t e : TypeId} {α : Type} {d : Kd α} {wf : α → Prop} (q : Nat) (h : P.underlying t = some (.slice e)) (hc : P.cellsOf e = d.sz) (o : Opens P e d wf) :
    Opens P t (Kd.slice q d) (WList wf) := by
  intro H enc w base spare held fuel cs x ht
  rcases open_slice h ht with ⟨rfl, _⟩ | ⟨a, len, cap, m, n, D, Pl, rfl, hb, hl, hm, hmm, hx, hi⟩
  · exact ⟨[], ⟨none, 0, rfl, Nat.le_refl _, rfl, by simp, fun hn => by simp at hn⟩, by simp [WList]⟩
  · have hlm : len ≤ m := by rw [hmm]; split <;> omega
    have each : ∀ i, i < len → ∃ y cs', w.cells? base (a.add (i * d.sz)) d.sz = some cs' ∧ d.K w y cs' ∧ wf y := by
      intro i hil
      obtain ⟨cs', h1, h2⟩ := hi i (by omega)
      obtain ⟨y, hk, hw⟩ := o h2
      rw [hc] at h1
      exact ⟨y, cs', h1, hk, hw⟩
    have build : ∀ k, k ≤ len → ∃ ys : List α, ys.length = k ∧ (∀ y ∈ ys, wf y) ∧ ∀ j y, ys[j]? = some y → ∃ c, c.length = d.sz ∧ d.K w y c ∧ ∀ i u, c[i]? = some u → w.cell? (a.add (j * d.sz + i)) = some u := by
      intro k
      induction k with
      | zero => exact fun _ => ⟨[], rfl, by simp, by simp⟩
      | succ k ih =>
        intro hk
        obtain ⟨ys, hlen, hwf, hys⟩ := ih (by omega)
        obtain ⟨y, cs', h1, h2, h3⟩ := each k (by omega)
        obtain ⟨_, hcl, hat⟩ := World.cells?_some h1
        refine ⟨ys ++ [y], by simp [hlen], ?_, ?_⟩
        · intro z hz
          rcases List.mem_append.1 hz with hz | hz
          · exact hwf z hz
          · rw [List.mem_singleton.1 hz]; exact h3
        · intro j z hj
          by_cases hjk : j < k
          · rw [List.getElem?_append_left (by omega)] at hj
            exact hys j z hj
          · have hjl : j < (ys ++ [y]).length := (List.getElem?_eq_some_iff.1 hj).1
            simp only [List.length_append, List.length_singleton, hlen] at hjl
            obtain rfl : j = k := by omega
            rw [List.getElem?_append_right (by omega), hlen, Nat.sub_self] at hj
            obtain rfl : y = z := by simpa using hj
            refine ⟨cs', hcl, h2, fun i u hu => ?_⟩
            have hil : i < d.sz := by
              have := (List.getElem?_eq_some_iff.1 hu).1
              omega
            have := hat i hil
            rw [Go.Deep.add_add] at this
            rw [this, hu]
    obtain ⟨ys, hlen, hwf, hys⟩ := build len (Nat.le_refl _)
    have hmx : len ≤ maxLen := by omega
    exact ⟨ys, ⟨some a, cap, by rw [hlen], by rw [hlen]; exact hl, rfl, by rw [hlen]; exact hmx, fun _ => ⟨a, rfl, hys⟩⟩, by rw [hlen]; exact hmx, hwf⟩

theorem opens_iso {P : Program} {t : TypeId} {α β : Type} {d : Kd α} {wf : α → Prop} (f : β → α) (g : α → β) (hg : ∀ a, f (g a) = a) (o : Opens P t d wf) : Opens P t (Kd.iso d f) (fun b => wf (f b)) := by
  intro H enc w base spare held fuel cs x ht
  obtain ⟨a, h1, h2⟩ := o ht
  exact ⟨g a, by show d.K w (f (g a)) cs; rw [hg]; exact h1, by show wf (f (g a)); rw [hg]; exact h2⟩

theorem opens_two {P : Program} {t : TypeId} {f0 f1 : Field} {α β : Type} {a : Kd α} {b : Kd β} {wa : α → Prop} {wb : β → Prop}
    (h : P.underlying t = some (.struct #[f0, f1])) (hc : P.cellsOf t = a.sz + b.sz) (o0 : f0.offset = 0) (o1 : f1.offset = a.sz) (c0 : P.cellsOf f0.type = a.sz) (c1 : P.cellsOf f1.type = b.sz)
    (oa : Opens P f0.type a wa) (ob : Opens P f1.type b wb) : Opens P t (Kd.pair a b) (fun x => wa x.1 ∧ wb x.2) := by
  intro H enc w base spare held fuel cs x ht
  obtain ⟨xs, n, _, _, hlen, hxl, hf⟩ := DataW.trod_struct h ht
  have hx2 : xs.length = 2 := hxl
  have h0 := hf 0 f0 rfl
  have h1 := hf 1 f1 rfl
  rw [List.getElem?_eq_getElem (by omega)] at h0 h1
  obtain ⟨y0, k0, w0⟩ := oa h0
  obtain ⟨y1, k1, w1⟩ := ob h1
  refine ⟨(y0, y1), ⟨_, _, ?_, k0, k1⟩, w0, w1⟩
  rw [hc] at hlen
  rw [o0, o1, c0, c1, List.drop_zero]
  rw [List.take_of_length_le (l := cs.drop a.sz) (by simp; omega), List.take_append_drop]

theorem opens_three {P : Program} {t : TypeId} {f0 f1 f2 : Field} {α β γ : Type} {a : Kd α} {b : Kd β} {c : Kd γ} {wa : α → Prop} {wb : β → Prop} {wc : γ → Prop}
    (h : P.underlying t = some (.struct #[f0, f1, f2])) (hc : P.cellsOf t = a.sz + (b.sz + c.sz)) (o0 : f0.offset = 0) (o1 : f1.offset = a.sz) (o2 : f2.offset = a.sz + b.sz) (c0 : P.cellsOf f0.type = a.sz) (c1 : P.cellsOf f1.type = b.sz) (c2 : P.cellsOf f2.type = c.sz)
    (oa : Opens P f0.type a wa) (ob : Opens P f1.type b wb) (oc : Opens P f2.type c wc) : Opens P t (Kd.pair a (Kd.pair b c)) (fun x => wa x.1 ∧ wb x.2.1 ∧ wc x.2.2) := by
  intro H enc w base spare held fuel cs x ht
  obtain ⟨xs, n, _, _, hlen, hxl, hf⟩ := DataW.trod_struct h ht
  have hx2 : xs.length = 3 := hxl
  have h0 := hf 0 f0 rfl
  have h1 := hf 1 f1 rfl
  have h2 := hf 2 f2 rfl
  rw [List.getElem?_eq_getElem (by omega)] at h0 h1 h2
  obtain ⟨y0, k0, w0⟩ := oa h0
  obtain ⟨y1, k1, w1⟩ := ob h1
  obtain ⟨y2, k2, w2⟩ := oc h2
  rw [hc] at hlen
  refine ⟨(y0, y1, y2), ⟨_, cs.drop a.sz, ?_, k0, ⟨_, _, ?_, k1, k2⟩⟩, w0, w1, w2⟩
  · rw [o0, c0, List.drop_zero, List.take_append_drop]
  · rw [o1, o2, c1, c2]
    rw [List.take_of_length_le (l := cs.drop (a.sz + b.sz)) (by simp; omega), ← List.drop_drop, List.take_append_drop]

/-- A slice among the arguments. -/
theorem open_arg_slice {P : Program} {t : TypeId} {α : Type} {d : Kd α} {wf : α → Prop} {q : Nat} (o : Opens P t (Kd.slice q d) (WList wf)) {H : Type} {enc : TypeId × Value → H} {w : World} {base : Nat} {spare : Nat → Bool} {held : Bool}
    {A : Option Addr} {len cap : Nat} {D : DataW H} {ps : List MemPlace} (h : DataW.Trod enc P w base spare held t (.slice A len cap) D ps) :
    ∃ l : List α, len = l.length ∧ l.length ≤ cap ∧ d.C w A l.length l ∧ WList wf l := by
  obtain ⟨fuel, hf⟩ := h
  obtain ⟨l, ⟨A', c, he, hl, hC⟩, hw⟩ := o hf
  simp only [Value.cells, List.cons.injEq, Value.slice.injEq, and_true] at he
  obtain ⟨rfl, rfl, rfl⟩ := he
  exact ⟨l, rfl, hl, hC, hw⟩
end Go.Proofs.Ytadhbepoblllhaa.Op
end

section
/- FnExactAreEqual: the program and the reference agree for all arguments: the row over the pure statement. -/
namespace Go.Proofs.Ytadhbepoblllhaa.fnExactAreEqual
open Go.ChangeShapes Go.WideShapes Go.ChangeAt Go.RowKit
open Go.ChangeMaps (open_string shut_string)
open Go.Proofs.Ytadhbepoblllhaa.Op
set_option linter.unusedVariables false
theorem own : ownKnob Try.prog.godebug = none := by kernel_rfl
theorem laidOut : laidOutB Try.prog = true := by kernel_rfl
theorem ty3 : Opens Try.prog 3 (Go.Proofs.YtadhbepoblllhaaW.PrintWords.Kd.int .i64) (WNum .i64) := opens_int Try.underlying3
theorem ty23 : Opens Try.prog 23 (Go.Proofs.YtadhbepoblllhaaW.PrintWords.Kd.slice 3 (Go.Proofs.YtadhbepoblllhaaW.PrintWords.Kd.int .i64)) (WList (WNum .i64)) := opens_slice 3 Try.underlying23 (by kernel_rfl) ty3
theorem ty22 : Opens Try.prog 22 (Go.Proofs.YtadhbepoblllhaaW.PrintWords.Kd.slice 23 (Go.Proofs.YtadhbepoblllhaaW.PrintWords.Kd.slice 3 (Go.Proofs.YtadhbepoblllhaaW.PrintWords.Kd.int .i64))) (WList (WList (WNum .i64))) := opens_slice 23 Try.underlying22 (by kernel_rfl) ty23
theorem tw25 : Opens Try.prog 25 (Go.Proofs.YtadhbepoblllhaaW.PrintWords.Kd.pair (Go.Proofs.YtadhbepoblllhaaW.PrintWords.Kd.int .i64) (Go.Proofs.YtadhbepoblllhaaW.PrintWords.Kd.pair (Go.Proofs.YtadhbepoblllhaaW.PrintWords.Kd.slice 23 (Go.Proofs.YtadhbepoblllhaaW.PrintWords.Kd.slice 3 (Go.Proofs.YtadhbepoblllhaaW.PrintWords.Kd.int .i64))) (Go.Proofs.YtadhbepoblllhaaW.PrintWords.Kd.slice 3 (Go.Proofs.YtadhbepoblllhaaW.PrintWords.Kd.int .i64)))) (fun x : Int × (List (List Int)) × (List Int) => (WNum .i64) x.1 ∧ (WList (WList (WNum .i64))) x.2.1 ∧ (WList (WNum .i64)) x.2.2) := opens_three Try.underlying25 (by kernel_rfl) (by kernel_rfl) (by kernel_rfl) (by kernel_rfl) (by kernel_rfl) (by kernel_rfl) (by kernel_rfl) ty3 ty22 ty23
set_option maxRecDepth 100000 in
theorem lifted (os : Os) (started : os.Started) (H : Type) (enc : TypeId × Value → H) :
    ReturnsInHanded {} Try.checked os 3 .any (Rows.fnExactAreEqualSpec.pre6 enc Try.prog Try.f3 Rows.fnExactAreEqualRow.domain false) (Rows.fnExactAreEqualSpec.post enc Try.prog Try.f3 false true false false) := by
  refine returnsInHanded_of_change_sized (C := Try.checked) own started (by kernel_rfl) Try.func3
    (ChangeSpec.witness6 (enc := enc) (C := Try.checked) false ⟨#[], #[.agg #[.int .i64 0, .slice none 0 0, .slice none 0 0], .agg #[.int .i64 0, .slice none 0 0, .slice none 0 0]], []⟩ 8 (by kernel_rfl) (by kernel_rfl) (by kernel_rfl) (by kernel_rfl)) ?_
  intro W base args ds gs before hval0 hW hcnd hsz0 _
  have hsz : (DataW.weightsEach Try.prog (Try.f3.params.toList ++ Rows.fnExactAreEqualSpec.plain.varTypes Try.prog) (ds ++ gs)).all (· ≤ reachBytes) = true := hsz0
  have hval : ∀ (j : Nat) t v, Try.f3.params[j]? = some t → args[j]? = some v → Value.okWide Try.prog W .any base t v := hval0
  have hW' := hW
  obtain ⟨p, q, hA0, hV, rfl, hfz, hnd⟩ := hW
  have hA : DataW.TrodAll enc Try.prog W 0 (fun _ => true) true Try.f3.params.toList args.toList ds p := hA0
  rw [Try.params3] at hA hval hsz
  obtain ⟨v0, vs0, d0, ds0, p0, q0, hargs, rfl, rfl, h0, r0⟩ := trodAll_cons hA
  obtain ⟨v1, vs1, d1, ds1, p1, q1, rfl, rfl, rfl, h1, r1⟩ := trodAll_cons r0
  obtain ⟨rfl, rfl, rfl⟩ := trodAll_nil r1
  obtain rfl : args = #[v0, v1] := by cases args; simp_all
  obtain ⟨rfl, rfl⟩ := trodVars_none hV
  have k0 := h0
  have lt0 : ∀ x ∈ p0, x.block < W.heap.size := by obtain ⟨m, hm⟩ := k0; exact DataW.trod_lt m _ _ _ hm
  obtain ⟨cs0, rfl, _⟩ := okWide_struct Try.underlying25 (hval 0 25 v0 rfl rfl)
  obtain ⟨csl0⟩ := cs0
  obtain ⟨fu0, hf0⟩ := h0
  obtain ⟨⟨a0_0, l0_1, l0_2⟩, ⟨x0_0, xr0, ex0, e0_0, ⟨x0_1, x0_2, er0, ⟨A0_1, c0_1, e0_1, hc0_1, hC0_1⟩, ⟨A0_2, c0_2, e0_2, hc0_2, hC0_2⟩⟩⟩, ⟨w0_0, w0_1, w0_2⟩⟩ := tw25 hf0
  replace e0_0 : x0_0 = [Value.int .i64 a0_0] := e0_0
  replace e0_1 : x0_1 = [Value.slice A0_1 l0_1.length c0_1] := e0_1
  replace hc0_1 : l0_1.length ≤ c0_1 := hc0_1
  replace hC0_1 : Go.Proofs.YtadhbepoblllhaaW.PrintWords.Kd.C (Go.Proofs.YtadhbepoblllhaaW.PrintWords.Kd.slice 3 (Go.Proofs.YtadhbepoblllhaaW.PrintWords.Kd.int .i64)) W A0_1 l0_1.length l0_1 := hC0_1
  replace e0_2 : x0_2 = [Value.slice A0_2 l0_2.length c0_2] := e0_2
  replace hc0_2 : l0_2.length ≤ c0_2 := hc0_2
  replace hC0_2 : Go.Proofs.YtadhbepoblllhaaW.PrintWords.Kd.C (Go.Proofs.YtadhbepoblllhaaW.PrintWords.Kd.int .i64) W A0_2 l0_2.length l0_2 := hC0_2
  replace w0_0 : (WNum .i64) a0_0 := w0_0
  replace w0_1 : (WList (WList (WNum .i64))) l0_1 := w0_1
  replace w0_2 : (WList (WNum .i64)) l0_2 := w0_2
  subst e0_1 e0_2 er0 e0_0 ex0
  have k1 := h1
  have lt1 : ∀ x ∈ p1, x.block < W.heap.size := by obtain ⟨m, hm⟩ := k1; exact DataW.trod_lt m _ _ _ hm
  obtain ⟨cs1, rfl, _⟩ := okWide_struct Try.underlying25 (hval 1 25 v1 rfl rfl)
  obtain ⟨csl1⟩ := cs1
  obtain ⟨fu1, hf1⟩ := h1
  obtain ⟨⟨a1_0, l1_1, l1_2⟩, ⟨x1_0, xr1, ex1, e1_0, ⟨x1_1, x1_2, er1, ⟨A1_1, c1_1, e1_1, hc1_1, hC1_1⟩, ⟨A1_2, c1_2, e1_2, hc1_2, hC1_2⟩⟩⟩, ⟨w1_0, w1_1, w1_2⟩⟩ := tw25 hf1
  replace e1_0 : x1_0 = [Value.int .i64 a1_0] := e1_0
  replace e1_1 : x1_1 = [Value.slice A1_1 l1_1.length c1_1] := e1_1
  replace hc1_1 : l1_1.length ≤ c1_1 := hc1_1
  replace hC1_1 : Go.Proofs.YtadhbepoblllhaaW.PrintWords.Kd.C (Go.Proofs.YtadhbepoblllhaaW.PrintWords.Kd.slice 3 (Go.Proofs.YtadhbepoblllhaaW.PrintWords.Kd.int .i64)) W A1_1 l1_1.length l1_1 := hC1_1
  replace e1_2 : x1_2 = [Value.slice A1_2 l1_2.length c1_2] := e1_2
  replace hc1_2 : l1_2.length ≤ c1_2 := hc1_2
  replace hC1_2 : Go.Proofs.YtadhbepoblllhaaW.PrintWords.Kd.C (Go.Proofs.YtadhbepoblllhaaW.PrintWords.Kd.int .i64) W A1_2 l1_2.length l1_2 := hC1_2
  replace w1_0 : (WNum .i64) a1_0 := w1_0
  replace w1_1 : (WList (WList (WNum .i64))) l1_1 := w1_1
  replace w1_2 : (WList (WNum .i64)) l1_2 := w1_2
  subst e1_1 e1_2 er1 e1_0 ex1
  clear hA0 hval0 hsz0 hsz
  refine (A.lawFnExactAreEqual  a0_0 A0_1 c0_1 l0_1 A0_2 c0_2 l0_2 a1_0 A1_1 c1_1 l1_1 A1_2 c1_2 l1_2 W hC0_1 hc0_1 hC0_2 hc0_2 hC1_1 hc1_1 hC1_2 hc1_2 w0_1.1 (fun x hx => (w0_1.2 x hx).1) w0_2.1 w1_1.1 (fun x hx => (w1_1.2 x hx).1) w1_2.1).mono fun e W' ⟨he, bel⟩ => ?_
  subst he
  exact ⟨_, rfl, _, _, _, [], _, [], hW', trodAll_mk1 (shut_bool Try.underlying4 _), (trodAll_cons_mk (Below.trod laidOut (by kernel_rfl) (of_decide_eq_true (by kernel_rfl)) k0 bel lt0) (trodAll_cons_mk (Below.trod laidOut (by kernel_rfl) (of_decide_eq_true (by kernel_rfl)) k1 bel lt1) trodAll_mk0)), rfl, bel.frame _, fun h => by cases h⟩
theorem over : Rows.fnExactAreEqualRow.holds Try.pinned (OpenSpec.ofChange Rows.fnExactAreEqualSpec) :=
  OpenClaim.holds_of_wide 3 Try.f3 rfl rfl rfl rfl rfl rfl rfl ⟨rfl, rfl, rfl, rfl, rfl⟩ rfl rfl rfl rfl rfl (by kernel_rfl) Try.func3 (by kernel_rfl)
    (of_decide_eq_true (by kernel_rfl)) (by unfold Func.isWrapper; first | (rw [if_pos (by decide +kernel)]; kernel_rfl) | (rw [if_neg (by decide +kernel)]; exact ⟨rfl, rfl⟩))
    (fun os started H enc _ => lifted os started H enc)
end Go.Proofs.Ytadhbepoblllhaa.fnExactAreEqual
namespace Go.Proofs.Ytadhbepoblllhaa
/-- The row. -/
theorem fnExactAreEqual_holds : Rows.FnExactAreEqualSaid := fnExactAreEqual.over
end Go.Proofs.Ytadhbepoblllhaa
end
