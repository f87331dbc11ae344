/- FnExactFirstWord: texts of this claim in one: WalkFnExactFirstWord, AMark, LawFirstWord, Op, RowFnExactFirstWord. -/
import Derived.Test.YtadhbepoblllhaaZFnExactFirstWord0
import Derived.Test.YtadhbepoblllhaaYFnExactFirstWordPx37
import Derived.Test.YtadhbepoblllhaaYFnExactFirstWordPx38
import Derived.Test.YtadhbepoblllhaaYFnExactFirstWordPx40
import Derived.Test.YtadhbepoblllhaaYFnExactFirstWordPx41
import Derived.Test.YtadhbepoblllhaaYFnExactFirstWordPx36
import Derived.Test.YtadhbepoblllhaaYFnExactFirstWordPx45
import Derived.Test.YtadhbepoblllhaaYFnExactFirstWordABase
import Derived.Test.YtadhbepoblllhaaYFnExactFirstWordAEq
import Derived.Deep.Slices
import Derived.ChangeSame
import Derived.ChangeArms
import Derived.Test.YtadhbepoblllhaaWWords
import Derived.Test.YtadhbepoblllhaaRows
import Derived.WalkKit
import Derived.ProofKit
import Derived.OpenShut
import Derived.ShutString
import Derived.ChangeOld
import Derived.Below
import Derived.SizedLaws
section
/- The walk of FnExactFirstWord along the one way on which all its tests succeed, and the short ones where an argument is too great. -/
namespace Go.Proofs.Ytadhbepoblllhaa.P
open Go.RowKit Go.Proofs.YtadhbepoblllhaaW.PrintWords Go.Proofs.YtadhbepoblllhaaW.PrintLast Go.Proofs.YtadhbepoblllhaaW.PrintMore Go.Proofs.Ytadhbepoblllhaa
set_option linter.unusedVariables false
set_option linter.unusedSimpArgs false
set_option maxHeartbeats 4000000 in
set_option maxRecDepth 100000 in
theorem FnExactFirstWord_small0 (k : Nat) (a0 : Int) (a1_0 : Int) (A1_1 : Option Addr) (c1_1 : Nat) (l1_1 : List (List (Int))) (A1_2 : Option Addr) (c1_2 : Nat) (l1_2 : List (Int)) (a2_0 : Int) (A2_1 : Option Addr) (c2_1 : Nat) (l2_1 : List (List (Int))) (A2_2 : Option Addr) (c2_2 : Nat) (l2_2 : List (Int)) (z_aA : Int) (w : World)
    (hr1_1 : Kd.C (Kd.slice 3 (Kd.int .i64)) w A1_1 l1_1.length l1_1) (hc1_1 : l1_1.length ≤ c1_1)
    (hr1_2 : Kd.C (Kd.int .i64) w A1_2 l1_2.length l1_2) (hc1_2 : l1_2.length ≤ c1_2)
    (hr2_1 : Kd.C (Kd.slice 3 (Kd.int .i64)) w A2_1 l2_1.length l2_1) (hc2_1 : l2_1.length ≤ c2_1)
    (hr2_2 : Kd.C (Kd.int .i64) w A2_2 l2_2.length l2_2) (hc2_2 : l2_2.length ≤ c2_2)
    (e_sz_aA : laws_szAutomaton.f k a1_0 l1_1 l1_2 1048576 = some z_aA)
    (hz_aA : z_aA < 0) :
    Calls Try.prog 6 #[.int .i64 a0, .agg #[.int .i64 a1_0, .slice A1_1 l1_1.length c1_1, .slice A1_2 l1_2.length c1_2], .agg #[.int .i64 a2_0, .slice A2_1 l2_1.length c2_1, .slice A2_2 l2_2.length c2_2]] w fun e w' => e = .returned (.bool true) ∧ Below w.heap.size w w' := by
  have hu29 := Try.underlying29
  have hu25 := Try.underlying25
  have hzb_aA : decide (z_aA < 0) = true := decide_eq_true (by omega)
  have HR1_1 := Aside0.mk hr1_1
  clear hr1_1
  have HC1_1 := Aside0.mk hc1_1
  clear hc1_1
  have HR1_2 := Aside0.mk hr1_2
  clear hr1_2
  have HC1_2 := Aside0.mk hc1_2
  clear hc1_2
  have HR2_1 := Aside0.mk hr2_1
  clear hr2_1
  have HC2_1 := Aside0.mk hc2_1
  clear hc2_1
  have HR2_2 := Aside0.mk hr2_2
  clear hr2_2
  have HC2_2 := Aside0.mk hc2_2
  clear hc2_2
  have He_sz_aA := Aside0.mk e_sz_aA
  clear e_sz_aA
  have HB := Aside0.mk (Below.refl w.heap.size w)
  go_enter Try.func6, Try.ntmps6
  go_wp2_with fail
  refine (laws_szAutomaton.calls k _ _ _ _ _ _ _ _ _ _ (Kd.C_below HR1_1.out (below_step HB.out (by repeat (first | with_reducible exact Below.refl _ _ | with_reducible apply below_alloc | with_reducible refine below_set ?_ (Nat.le_refl _) | with_reducible apply pw_below_drewN | with_reducible apply below_drew1)))) HC1_1.out (Kd.C_below HR1_2.out (below_step HB.out (by repeat (first | with_reducible exact Below.refl _ _ | with_reducible apply below_alloc | with_reducible refine below_set ?_ (Nat.le_refl _) | with_reducible apply pw_below_drewN | with_reducible apply below_drew1)))) HC1_2.out He_sz_aA.out).mono ?_
  rintro e w1 ⟨rfl, hb⟩
  have BK_aA := Aside0.mk (blk_below (g := w.heap.size) (o := .cells #[.int .i64 a1_0, .slice A1_1 l1_1.length c1_1, .slice A1_2 l1_2.length c1_2] 25 (0, 0)) (by (repeat (first | with_reducible refine blk_drewN ?_ _ | with_reducible refine blk_drew ?_)); exact (blk_alloc (blk_new _ _) _)) hb)
  have BK_aB := Aside0.mk (blk_below (g := (w.heap.size + 1)) (o := .cells #[.int .i64 a2_0, .slice A2_1 l2_1.length c2_1, .slice A2_2 l2_2.length c2_2] 25 (0, 0)) (by (repeat (first | with_reducible refine blk_drewN ?_ _ | with_reducible refine blk_drew ?_)); exact (by have h_ := blk_new (w.alloc (.cells #[.int .i64 a1_0, .slice A1_1 l1_1.length c1_1, .slice A1_2 l1_2.length c1_2] 25)) (.cells #[.int .i64 a2_0, .slice A2_1 l2_1.length c2_1, .slice A2_2 l2_2.length c2_2] 25); rw [show (w.alloc (.cells #[.int .i64 a1_0, .slice A1_1 l1_1.length c1_1, .slice A1_2 l1_2.length c1_2] 25)).heap.size = w.heap.size + 1 from Array.size_push _] at h_; exact h_)) hb)
  have HG_BK_aA : Aside0 (w.heap.size < w1.heap.size) := ⟨blk_lt BK_aA.out⟩
  have HG_BK_aB : Aside0 ((w.heap.size + 1) < w1.heap.size) := ⟨blk_lt BK_aB.out⟩
  have HW := Aside0.mk (below_step (w := w) (by repeat (first | with_reducible exact Below.refl _ _ | with_reducible apply below_alloc | with_reducible refine below_set ?_ (Nat.le_refl _) | with_reducible apply pw_below_drewN | with_reducible apply below_drew1)) hb)
  have HZ1 : Aside0 (w.heap.size ≤ w1.heap.size) := ⟨HW.out.size⟩
  replace HB := Aside0.mk (below_step HB.out HW.out)
  clear hb HW
  have czBK_aA_0 : w1.cell? ⟨w.heap.size, 0, none⟩ = some (.int .i64 a1_0) := (blk_cell BK_aA.out 0).trans rfl
  have czBK_aA_1 : w1.cell? ⟨w.heap.size, 1, none⟩ = some (.slice A1_1 l1_1.length c1_1) := (blk_cell BK_aA.out 1).trans rfl
  have czBK_aA_2 : w1.cell? ⟨w.heap.size, 2, none⟩ = some (.slice A1_2 l1_2.length c1_2) := (blk_cell BK_aA.out 2).trans rfl
  have czBK_aB_0 : w1.cell? ⟨(w.heap.size + 1), 0, none⟩ = some (.int .i64 a2_0) := (blk_cell BK_aB.out 0).trans rfl
  have czBK_aB_1 : w1.cell? ⟨(w.heap.size + 1), 1, none⟩ = some (.slice A2_1 l2_1.length c2_1) := (blk_cell BK_aB.out 1).trans rfl
  have czBK_aB_2 : w1.cell? ⟨(w.heap.size + 1), 2, none⟩ = some (.slice A2_2 l2_2.length c2_2) := (blk_cell BK_aB.out 2).trans rfl
  go_wp2_with fail
  go_ret
  exact ⟨rfl, below_step HB.out (by repeat (first | with_reducible exact Below.refl _ _ | with_reducible apply below_alloc | with_reducible refine below_set ?_ (Nat.le_refl _) | with_reducible apply pw_below_drewN | with_reducible apply below_drew1))⟩
set_option maxHeartbeats 4000000 in
set_option maxRecDepth 100000 in
theorem FnExactFirstWord_small1 (k : Nat) (a0 : Int) (a1_0 : Int) (A1_1 : Option Addr) (c1_1 : Nat) (l1_1 : List (List (Int))) (A1_2 : Option Addr) (c1_2 : Nat) (l1_2 : List (Int)) (a2_0 : Int) (A2_1 : Option Addr) (c2_1 : Nat) (l2_1 : List (List (Int))) (A2_2 : Option Addr) (c2_2 : Nat) (l2_2 : List (Int)) (z_aA : Int) (z_aB : Int) (w : World)
    (hr1_1 : Kd.C (Kd.slice 3 (Kd.int .i64)) w A1_1 l1_1.length l1_1) (hc1_1 : l1_1.length ≤ c1_1)
    (hr1_2 : Kd.C (Kd.int .i64) w A1_2 l1_2.length l1_2) (hc1_2 : l1_2.length ≤ c1_2)
    (hr2_1 : Kd.C (Kd.slice 3 (Kd.int .i64)) w A2_1 l2_1.length l2_1) (hc2_1 : l2_1.length ≤ c2_1)
    (hr2_2 : Kd.C (Kd.int .i64) w A2_2 l2_2.length l2_2) (hc2_2 : l2_2.length ≤ c2_2)
    (e_sz_aA : laws_szAutomaton.f k a1_0 l1_1 l1_2 1048576 = some z_aA)
    (hz_aA : 0 ≤ z_aA)
    (e_sz_aB : laws_szAutomaton.f k a2_0 l2_1 l2_2 z_aA = some z_aB)
    (hz_aB : z_aB < 0) :
    Calls Try.prog 6 #[.int .i64 a0, .agg #[.int .i64 a1_0, .slice A1_1 l1_1.length c1_1, .slice A1_2 l1_2.length c1_2], .agg #[.int .i64 a2_0, .slice A2_1 l2_1.length c2_1, .slice A2_2 l2_2.length c2_2]] w fun e w' => e = .returned (.bool true) ∧ Below w.heap.size w w' := by
  have hu29 := Try.underlying29
  have hu25 := Try.underlying25
  have hzb_aB : decide (z_aB < 0) = true := decide_eq_true (by omega)
  have hzb_aA : decide (z_aA < 0) = false := decide_eq_false (by omega)
  have HR1_1 := Aside0.mk hr1_1
  clear hr1_1
  have HC1_1 := Aside0.mk hc1_1
  clear hc1_1
  have HR1_2 := Aside0.mk hr1_2
  clear hr1_2
  have HC1_2 := Aside0.mk hc1_2
  clear hc1_2
  have HR2_1 := Aside0.mk hr2_1
  clear hr2_1
  have HC2_1 := Aside0.mk hc2_1
  clear hc2_1
  have HR2_2 := Aside0.mk hr2_2
  clear hr2_2
  have HC2_2 := Aside0.mk hc2_2
  clear hc2_2
  have He_sz_aA := Aside0.mk e_sz_aA
  clear e_sz_aA
  have He_sz_aB := Aside0.mk e_sz_aB
  clear e_sz_aB
  have HB := Aside0.mk (Below.refl w.heap.size w)
  go_enter Try.func6, Try.ntmps6
  go_wp2_with fail
  refine (laws_szAutomaton.calls k _ _ _ _ _ _ _ _ _ _ (Kd.C_below HR1_1.out (below_step HB.out (by repeat (first | with_reducible exact Below.refl _ _ | with_reducible apply below_alloc | with_reducible refine below_set ?_ (Nat.le_refl _) | with_reducible apply pw_below_drewN | with_reducible apply below_drew1)))) HC1_1.out (Kd.C_below HR1_2.out (below_step HB.out (by repeat (first | with_reducible exact Below.refl _ _ | with_reducible apply below_alloc | with_reducible refine below_set ?_ (Nat.le_refl _) | with_reducible apply pw_below_drewN | with_reducible apply below_drew1)))) HC1_2.out He_sz_aA.out).mono ?_
  rintro e w1 ⟨rfl, hb⟩
  have BK_aA := Aside0.mk (blk_below (g := w.heap.size) (o := .cells #[.int .i64 a1_0, .slice A1_1 l1_1.length c1_1, .slice A1_2 l1_2.length c1_2] 25 (0, 0)) (by (repeat (first | with_reducible refine blk_drewN ?_ _ | with_reducible refine blk_drew ?_)); exact (blk_alloc (blk_new _ _) _)) hb)
  have BK_aB := Aside0.mk (blk_below (g := (w.heap.size + 1)) (o := .cells #[.int .i64 a2_0, .slice A2_1 l2_1.length c2_1, .slice A2_2 l2_2.length c2_2] 25 (0, 0)) (by (repeat (first | with_reducible refine blk_drewN ?_ _ | with_reducible refine blk_drew ?_)); exact (by have h_ := blk_new (w.alloc (.cells #[.int .i64 a1_0, .slice A1_1 l1_1.length c1_1, .slice A1_2 l1_2.length c1_2] 25)) (.cells #[.int .i64 a2_0, .slice A2_1 l2_1.length c2_1, .slice A2_2 l2_2.length c2_2] 25); rw [show (w.alloc (.cells #[.int .i64 a1_0, .slice A1_1 l1_1.length c1_1, .slice A1_2 l1_2.length c1_2] 25)).heap.size = w.heap.size + 1 from Array.size_push _] at h_; exact h_)) hb)
  have HG_BK_aA : Aside0 (w.heap.size < w1.heap.size) := ⟨blk_lt BK_aA.out⟩
  have HG_BK_aB : Aside0 ((w.heap.size + 1) < w1.heap.size) := ⟨blk_lt BK_aB.out⟩
  have HW := Aside0.mk (below_step (w := w) (by repeat (first | with_reducible exact Below.refl _ _ | with_reducible apply below_alloc | with_reducible refine below_set ?_ (Nat.le_refl _) | with_reducible apply pw_below_drewN | with_reducible apply below_drew1)) hb)
  have HZ1 : Aside0 (w.heap.size ≤ w1.heap.size) := ⟨HW.out.size⟩
  replace HB := Aside0.mk (below_step HB.out HW.out)
  clear hb HW
  have czBK_aA_0 : w1.cell? ⟨w.heap.size, 0, none⟩ = some (.int .i64 a1_0) := (blk_cell BK_aA.out 0).trans rfl
  have czBK_aA_1 : w1.cell? ⟨w.heap.size, 1, none⟩ = some (.slice A1_1 l1_1.length c1_1) := (blk_cell BK_aA.out 1).trans rfl
  have czBK_aA_2 : w1.cell? ⟨w.heap.size, 2, none⟩ = some (.slice A1_2 l1_2.length c1_2) := (blk_cell BK_aA.out 2).trans rfl
  have czBK_aB_0 : w1.cell? ⟨(w.heap.size + 1), 0, none⟩ = some (.int .i64 a2_0) := (blk_cell BK_aB.out 0).trans rfl
  have czBK_aB_1 : w1.cell? ⟨(w.heap.size + 1), 1, none⟩ = some (.slice A2_1 l2_1.length c2_1) := (blk_cell BK_aB.out 1).trans rfl
  have czBK_aB_2 : w1.cell? ⟨(w.heap.size + 1), 2, none⟩ = some (.slice A2_2 l2_2.length c2_2) := (blk_cell BK_aB.out 2).trans rfl
  go_wp2_with fail
  refine (laws_szAutomaton.calls k _ _ _ _ _ _ _ _ _ _ (Kd.C_below HR2_1.out (below_step HB.out (by repeat (first | with_reducible exact Below.refl _ _ | with_reducible apply below_alloc | with_reducible refine below_set ?_ (Nat.le_refl _) | with_reducible apply pw_below_drewN | with_reducible apply below_drew1)))) HC2_1.out (Kd.C_below HR2_2.out (below_step HB.out (by repeat (first | with_reducible exact Below.refl _ _ | with_reducible apply below_alloc | with_reducible refine below_set ?_ (Nat.le_refl _) | with_reducible apply pw_below_drewN | with_reducible apply below_drew1)))) HC2_2.out He_sz_aB.out).mono ?_
  rintro e w2 ⟨rfl, hb⟩
  clear czBK_aA_0 czBK_aA_1 czBK_aA_2 czBK_aB_0 czBK_aB_1 czBK_aB_2
  have HW := Aside0.mk (below_step (w := w1) (by repeat (first | with_reducible exact Below.refl _ _ | with_reducible apply below_alloc | with_reducible refine below_set ?_ (Nat.le_refl _) | with_reducible apply pw_below_drewN | with_reducible apply below_drew1)) hb)
  have HZ2 : Aside0 (w1.heap.size ≤ w2.heap.size) := ⟨HW.out.size⟩
  replace HB := Aside0.mk (below_step HB.out HW.out)
  replace BK_aA := Aside0.mk (blk_below BK_aA.out HW.out)
  replace BK_aB := Aside0.mk (blk_below BK_aB.out HW.out)
  clear hb HW
  have czBK_aA_0 : w2.cell? ⟨w.heap.size, 0, none⟩ = some (.int .i64 a1_0) := (blk_cell BK_aA.out 0).trans rfl
  have czBK_aA_1 : w2.cell? ⟨w.heap.size, 1, none⟩ = some (.slice A1_1 l1_1.length c1_1) := (blk_cell BK_aA.out 1).trans rfl
  have czBK_aA_2 : w2.cell? ⟨w.heap.size, 2, none⟩ = some (.slice A1_2 l1_2.length c1_2) := (blk_cell BK_aA.out 2).trans rfl
  have czBK_aB_0 : w2.cell? ⟨(w.heap.size + 1), 0, none⟩ = some (.int .i64 a2_0) := (blk_cell BK_aB.out 0).trans rfl
  have czBK_aB_1 : w2.cell? ⟨(w.heap.size + 1), 1, none⟩ = some (.slice A2_1 l2_1.length c2_1) := (blk_cell BK_aB.out 1).trans rfl
  have czBK_aB_2 : w2.cell? ⟨(w.heap.size + 1), 2, none⟩ = some (.slice A2_2 l2_2.length c2_2) := (blk_cell BK_aB.out 2).trans rfl
  go_wp2_with fail
  go_ret
  exact ⟨rfl, below_step HB.out (by repeat (first | with_reducible exact Below.refl _ _ | with_reducible apply below_alloc | with_reducible refine below_set ?_ (Nat.le_refl _) | with_reducible apply pw_below_drewN | with_reducible apply below_drew1))⟩
set_option maxHeartbeats 4000000 in
set_option maxRecDepth 100000 in
theorem FnExactFirstWord_walk (k : Nat) (a0 : Int) (a1_0 : Int) (A1_1 : Option Addr) (c1_1 : Nat) (l1_1 : List (List (Int))) (A1_2 : Option Addr) (c1_2 : Nat) (l1_2 : List (Int)) (a2_0 : Int) (A2_1 : Option Addr) (c2_1 : Nat) (l2_1 : List (List (Int))) (A2_2 : Option Addr) (c2_2 : Nat) (l2_2 : List (Int)) (z_aA : Int) (z_aB : Int) (r0 : List (Int)) (r1 : Bool) (s0 : List (Int)) (kx1 : Int) (nx1_1 : List (List (Int))) (nx1_2 : List (Int)) (kx2 : Int) (nx2_1 : List (List (Int))) (nx2_2 : List (Int)) (mg0 : Int) (ng0_0 : List (Int)) (w : World)
    (hr1_1 : Kd.C (Kd.slice 3 (Kd.int .i64)) w A1_1 l1_1.length l1_1) (hc1_1 : l1_1.length ≤ c1_1)
    (hr1_2 : Kd.C (Kd.int .i64) w A1_2 l1_2.length l1_2) (hc1_2 : l1_2.length ≤ c1_2)
    (hr2_1 : Kd.C (Kd.slice 3 (Kd.int .i64)) w A2_1 l2_1.length l2_1) (hc2_1 : l2_1.length ≤ c2_1)
    (hr2_2 : Kd.C (Kd.int .i64) w A2_2 l2_2.length l2_2) (hc2_2 : l2_2.length ≤ c2_2)
    (e_sz_aA : laws_szAutomaton.f k a1_0 l1_1 l1_2 1048576 = some z_aA)
    (hz_aA : 0 ≤ z_aA)
    (e_sz_aB : laws_szAutomaton.f k a2_0 l2_1 l2_2 z_aA = some z_aB)
    (hz_aB : 0 ≤ z_aB)
    (e_to_aA : laws_toAutomaton.f k a1_0 l1_1 l1_2 = some (a1_0, l1_1, l1_2))
    (e_to_aB : laws_toAutomaton.f k a2_0 l2_1 l2_2 = some (a2_0, l2_1, l2_2))
    (e_spec : spec_FirstWord.f k a0 a1_0 l1_1 l1_2 a2_0 l2_1 l2_2 = some (r0, r1))
    (e_impl : impl_FirstWord.f k a0 a1_0 l1_1 l1_2 a2_0 l2_1 l2_2 = some (s0, r1))
    (e_eq_w0 : laws_eqIntS.f k s0 r0 = some true)
    (e_eq_x1 : laws_eqAutomaton.f k a1_0 l1_1 l1_2 a1_0 l1_1 l1_2 = some true)
    (e_eq_x2 : laws_eqAutomaton.f k a2_0 l2_1 l2_2 a2_0 l2_1 l2_2 = some true)
    (e_mark_x1 : laws_markAutomaton.f k a1_0 l1_1 l1_2 1 = some (kx1, nx1_1, nx1_2))
    (hkx1 : 0 ≤ kx1)
    (e_mark_x2 : laws_markAutomaton.f k a2_0 l2_1 l2_2 kx1 = some (kx2, nx2_1, nx2_2))
    (hkx2 : 0 ≤ kx2)
    (e_mark_g0 : laws_markIntS.f k s0 1 = some (mg0, ng0_0))
    (hmg0 : 0 ≤ mg0)
    (e_held_g0 : laws_heldIntS.f k ng0_0 1 = some mg0) :
    Calls Try.prog 6 #[.int .i64 a0, .agg #[.int .i64 a1_0, .slice A1_1 l1_1.length c1_1, .slice A1_2 l1_2.length c1_2], .agg #[.int .i64 a2_0, .slice A2_1 l2_1.length c2_1, .slice A2_2 l2_2.length c2_2]] w fun e w' => e = .returned (.bool true) ∧ Below w.heap.size w w' := by
  have hu29 := Try.underlying29
  have hu25 := Try.underlying25
  have hzb_aB : decide (z_aB < 0) = false := decide_eq_false (by omega)
  have hzb_aA : decide (z_aA < 0) = false := decide_eq_false (by omega)
  have HR1_1 := Aside0.mk hr1_1
  clear hr1_1
  have HC1_1 := Aside0.mk hc1_1
  clear hc1_1
  have HR1_2 := Aside0.mk hr1_2
  clear hr1_2
  have HC1_2 := Aside0.mk hc1_2
  clear hc1_2
  have HR2_1 := Aside0.mk hr2_1
  clear hr2_1
  have HC2_1 := Aside0.mk hc2_1
  clear hc2_1
  have HR2_2 := Aside0.mk hr2_2
  clear hr2_2
  have HC2_2 := Aside0.mk hc2_2
  clear hc2_2
  have He_sz_aA := Aside0.mk e_sz_aA
  clear e_sz_aA
  have He_sz_aB := Aside0.mk e_sz_aB
  clear e_sz_aB
  have He_to_aA := Aside0.mk e_to_aA
  clear e_to_aA
  have He_to_aB := Aside0.mk e_to_aB
  clear e_to_aB
  have He_spec := Aside0.mk e_spec
  clear e_spec
  have He_impl := Aside0.mk e_impl
  clear e_impl
  have He_eq_w0 := Aside0.mk e_eq_w0
  clear e_eq_w0
  have He_eq_x1 := Aside0.mk e_eq_x1
  clear e_eq_x1
  have He_eq_x2 := Aside0.mk e_eq_x2
  clear e_eq_x2
  have He_mark_x1 := Aside0.mk e_mark_x1
  clear e_mark_x1
  have hkb_x1 : decide (kx1 < 0) = false := decide_eq_false (by omega)
  have He_mark_x2 := Aside0.mk e_mark_x2
  clear e_mark_x2
  have hkb_x2 : decide (kx2 < 0) = false := decide_eq_false (by omega)
  have He_mark_g0 := Aside0.mk e_mark_g0
  clear e_mark_g0
  have hmb_g0 : decide (mg0 < 0) = false := decide_eq_false (by omega)
  have He_held_g0 := Aside0.mk e_held_g0
  clear e_held_g0
  have HB := Aside0.mk (Below.refl w.heap.size w)
  go_enter Try.func6, Try.ntmps6
  go_wp2_with fail
  refine (laws_szAutomaton.calls k _ _ _ _ _ _ _ _ _ _ (Kd.C_below HR1_1.out (below_step HB.out (by repeat (first | with_reducible exact Below.refl _ _ | with_reducible apply below_alloc | with_reducible refine below_set ?_ (Nat.le_refl _) | with_reducible apply pw_below_drewN | with_reducible apply below_drew1)))) HC1_1.out (Kd.C_below HR1_2.out (below_step HB.out (by repeat (first | with_reducible exact Below.refl _ _ | with_reducible apply below_alloc | with_reducible refine below_set ?_ (Nat.le_refl _) | with_reducible apply pw_below_drewN | with_reducible apply below_drew1)))) HC1_2.out He_sz_aA.out).mono ?_
  rintro e w1 ⟨rfl, hb⟩
  have BK_aA := Aside0.mk (blk_below (g := w.heap.size) (o := .cells #[.int .i64 a1_0, .slice A1_1 l1_1.length c1_1, .slice A1_2 l1_2.length c1_2] 25 (0, 0)) (by (repeat (first | with_reducible refine blk_drewN ?_ _ | with_reducible refine blk_drew ?_)); exact (blk_alloc (blk_new _ _) _)) hb)
  have BK_aB := Aside0.mk (blk_below (g := (w.heap.size + 1)) (o := .cells #[.int .i64 a2_0, .slice A2_1 l2_1.length c2_1, .slice A2_2 l2_2.length c2_2] 25 (0, 0)) (by (repeat (first | with_reducible refine blk_drewN ?_ _ | with_reducible refine blk_drew ?_)); exact (by have h_ := blk_new (w.alloc (.cells #[.int .i64 a1_0, .slice A1_1 l1_1.length c1_1, .slice A1_2 l1_2.length c1_2] 25)) (.cells #[.int .i64 a2_0, .slice A2_1 l2_1.length c2_1, .slice A2_2 l2_2.length c2_2] 25); rw [show (w.alloc (.cells #[.int .i64 a1_0, .slice A1_1 l1_1.length c1_1, .slice A1_2 l1_2.length c1_2] 25)).heap.size = w.heap.size + 1 from Array.size_push _] at h_; exact h_)) hb)
  have HG_BK_aA : Aside0 (w.heap.size < w1.heap.size) := ⟨blk_lt BK_aA.out⟩
  have HG_BK_aB : Aside0 ((w.heap.size + 1) < w1.heap.size) := ⟨blk_lt BK_aB.out⟩
  have HW := Aside0.mk (below_step (w := w) (by repeat (first | with_reducible exact Below.refl _ _ | with_reducible apply below_alloc | with_reducible refine below_set ?_ (Nat.le_refl _) | with_reducible apply pw_below_drewN | with_reducible apply below_drew1)) hb)
  have HZ1 : Aside0 (w.heap.size ≤ w1.heap.size) := ⟨HW.out.size⟩
  replace HB := Aside0.mk (below_step HB.out HW.out)
  clear hb HW
  have czBK_aA_0 : w1.cell? ⟨w.heap.size, 0, none⟩ = some (.int .i64 a1_0) := (blk_cell BK_aA.out 0).trans rfl
  have czBK_aA_1 : w1.cell? ⟨w.heap.size, 1, none⟩ = some (.slice A1_1 l1_1.length c1_1) := (blk_cell BK_aA.out 1).trans rfl
  have czBK_aA_2 : w1.cell? ⟨w.heap.size, 2, none⟩ = some (.slice A1_2 l1_2.length c1_2) := (blk_cell BK_aA.out 2).trans rfl
  have czBK_aB_0 : w1.cell? ⟨(w.heap.size + 1), 0, none⟩ = some (.int .i64 a2_0) := (blk_cell BK_aB.out 0).trans rfl
  have czBK_aB_1 : w1.cell? ⟨(w.heap.size + 1), 1, none⟩ = some (.slice A2_1 l2_1.length c2_1) := (blk_cell BK_aB.out 1).trans rfl
  have czBK_aB_2 : w1.cell? ⟨(w.heap.size + 1), 2, none⟩ = some (.slice A2_2 l2_2.length c2_2) := (blk_cell BK_aB.out 2).trans rfl
  go_wp2_with fail
  refine (laws_szAutomaton.calls k _ _ _ _ _ _ _ _ _ _ (Kd.C_below HR2_1.out (below_step HB.out (by repeat (first | with_reducible exact Below.refl _ _ | with_reducible apply below_alloc | with_reducible refine below_set ?_ (Nat.le_refl _) | with_reducible apply pw_below_drewN | with_reducible apply below_drew1)))) HC2_1.out (Kd.C_below HR2_2.out (below_step HB.out (by repeat (first | with_reducible exact Below.refl _ _ | with_reducible apply below_alloc | with_reducible refine below_set ?_ (Nat.le_refl _) | with_reducible apply pw_below_drewN | with_reducible apply below_drew1)))) HC2_2.out He_sz_aB.out).mono ?_
  rintro e w2 ⟨rfl, hb⟩
  clear czBK_aA_0 czBK_aA_1 czBK_aA_2 czBK_aB_0 czBK_aB_1 czBK_aB_2
  have HW := Aside0.mk (below_step (w := w1) (by repeat (first | with_reducible exact Below.refl _ _ | with_reducible apply below_alloc | with_reducible refine below_set ?_ (Nat.le_refl _) | with_reducible apply pw_below_drewN | with_reducible apply below_drew1)) hb)
  have HZ2 : Aside0 (w1.heap.size ≤ w2.heap.size) := ⟨HW.out.size⟩
  replace HB := Aside0.mk (below_step HB.out HW.out)
  replace BK_aA := Aside0.mk (blk_below BK_aA.out HW.out)
  replace BK_aB := Aside0.mk (blk_below BK_aB.out HW.out)
  clear hb HW
  have czBK_aA_0 : w2.cell? ⟨w.heap.size, 0, none⟩ = some (.int .i64 a1_0) := (blk_cell BK_aA.out 0).trans rfl
  have czBK_aA_1 : w2.cell? ⟨w.heap.size, 1, none⟩ = some (.slice A1_1 l1_1.length c1_1) := (blk_cell BK_aA.out 1).trans rfl
  have czBK_aA_2 : w2.cell? ⟨w.heap.size, 2, none⟩ = some (.slice A1_2 l1_2.length c1_2) := (blk_cell BK_aA.out 2).trans rfl
  have czBK_aB_0 : w2.cell? ⟨(w.heap.size + 1), 0, none⟩ = some (.int .i64 a2_0) := (blk_cell BK_aB.out 0).trans rfl
  have czBK_aB_1 : w2.cell? ⟨(w.heap.size + 1), 1, none⟩ = some (.slice A2_1 l2_1.length c2_1) := (blk_cell BK_aB.out 1).trans rfl
  have czBK_aB_2 : w2.cell? ⟨(w.heap.size + 1), 2, none⟩ = some (.slice A2_2 l2_2.length c2_2) := (blk_cell BK_aB.out 2).trans rfl
  go_wp2_with fail
  clear czBK_aA_0 czBK_aA_1 czBK_aA_2 czBK_aB_0 czBK_aB_1 czBK_aB_2
  refine start_ (n := 11) (S := fun w' => w'.cell? ⟨w.heap.size, 0, none⟩ = some (.int .i64 a1_0) ∧ w'.cell? ⟨w.heap.size, 1, none⟩ = some (.slice A1_1 l1_1.length c1_1) ∧ w'.cell? ⟨w.heap.size, 2, none⟩ = some (.slice A1_2 l1_2.length c1_2) ∧ w'.cell? ⟨(w.heap.size + 1), 0, none⟩ = some (.int .i64 a2_0) ∧ w'.cell? ⟨(w.heap.size + 1), 1, none⟩ = some (.slice A2_1 l2_1.length c2_1) ∧ w'.cell? ⟨(w.heap.size + 1), 2, none⟩ = some (.slice A2_2 l2_2.length c2_2)) (ds := []) #[false, false, false, false, false, false, false, false, false, false, false] (by kernel_rfl) rfl rfl ⟨(blk_cell BK_aA.out 0).trans rfl, (blk_cell BK_aA.out 1).trans rfl, (blk_cell BK_aA.out 2).trans rfl, (blk_cell BK_aB.out 0).trans rfl, (blk_cell BK_aB.out 1).trans rfl, (blk_cell BK_aB.out 2).trans rfl⟩ (fun hHeld => ?_)
  refine Own.anew_ (wN := w2) (by repeat (first | with_reducible exact Below.refl _ _ | with_reducible apply below_alloc | with_reducible refine below_set ?_ (Nat.le_refl _) | with_reducible apply pw_below_drewN | with_reducible apply below_drew1)) hHeld (fun w3 hb hHeld => ?_)
  have HW := Aside0.mk hb
  have HZ3 : Aside0 (w2.heap.size ≤ w3.heap.size) := ⟨HW.out.size⟩
  replace HB := Aside0.mk (below_step HB.out HW.out)
  replace BK_aA := Aside0.mk (blk_below BK_aA.out HW.out)
  replace BK_aB := Aside0.mk (blk_below BK_aB.out HW.out)
  clear hb HW
  refine pure_ (i := 0) (N := some 30) (v := ?_) (a' := ?_) #[true, false, false, false, false, false, false, false, false, false, false] rfl rfl (by kernel_rfl) (fun _ _ _ h => h) (Or.inl ⟨by rfl, ?_⟩) ?_ ?_
  rotate_left
  · intro w'
    go_simp
    with_reducible rfl
  rotate_left
  · simp only [Act.put, List.setIfInBounds_toArray, List.set_cons_zero, List.set_cons_succ, i64_w, i32_w]
    rfl
  refine take_ (i := 1) (N := some 31) (v := ?_) (a' := ?_) #[true, true, false, false, false, false, false, false, false, false, false] rfl rfl (by kernel_rfl) (fun _ _ _ h => h) (Or.inl ⟨by rfl, ?_⟩) hHeld ?_ ?_
  rotate_left
  · rintro w' ⟨s0_, s1_, s2_, s3_, s4_, s5_⟩
    go_simp
    with_reducible rfl
  rotate_left
  · simp only [Act.put, List.setIfInBounds_toArray, List.set_cons_zero, List.set_cons_succ, i64_w, i32_w]
    rfl
  refine take_ (i := 3) (N := some 33) (v := ?_) (a' := ?_) #[true, true, false, true, false, false, false, false, false, false, false] rfl rfl (by kernel_rfl) (fun _ _ _ h => h) (Or.inl ⟨by rfl, ?_⟩) hHeld ?_ ?_
  rotate_left
  · rintro w' ⟨s0_, s1_, s2_, s3_, s4_, s5_⟩
    go_simp
    with_reducible rfl
  rotate_left
  · simp only [Act.put, List.setIfInBounds_toArray, List.set_cons_zero, List.set_cons_succ, i64_w, i32_w]
    rfl
  have HP_ : Aside0 (Below w3.heap.size w3 w3) := ⟨Below.refl _ _⟩
  refine one_ (i := 2) (N := some 32) #[true, true, true, true, false, false, false, false, false, false, false] rfl rfl (by kernel_rfl) (by decide) (fun K hK => ?_)
  refine goes_ Try.func10 (by kernel_rfl) rfl #[.agg #[.int .i64 a1_0, .slice A1_1 l1_1.length c1_1, .slice A1_2 l1_2.length c1_2]] (by rfl) rfl rfl (by (try simp only [List.map_toArray, List.map_cons, List.map_nil]); first | done | rfl | (simp only [List.length_drop, List.length_take]; rfl)) ?_
  with_reducible refine (laws_toAutomaton.calls k _ _ _ _ _ _ _ _ _ _ _ (Kd.C_below HR1_1.out (below_step HB.out HP_.out)) HC1_1.out (Kd.C_below HR1_2.out (below_step HB.out HP_.out)) HC1_2.out He_to_aA.out).mono ?_
  rintro e wq0 ⟨vq0a, vq0b, rfl, hf0a, hf0b, hb⟩
  refine ⟨_, rfl, ?_⟩
  have FQ0a := Aside0.mk (Kd.S_lower hf0a HP_.out.size)
  have FQ0b := Aside0.mk (Kd.R_lower hf0b HP_.out.size)
  replace HP_ := Aside0.mk (below_step HP_.out hb)
  clear hf0a hf0b hb
  obtain ⟨Aq0a_, cq0a_, eq0a_⟩ := Kd.S_slice FQ0a.out
  subst eq0a_
  obtain ⟨Aq0b_, cq0b_, eq0b_⟩ := Kd.R_slice FQ0b.out
  subst eq0b_
  refine hK.out _ _ ⟨(blk_cell (blk_below BK_aA.out HP_.out) 0).trans rfl, (blk_cell (blk_below BK_aA.out HP_.out) 1).trans rfl, (blk_cell (blk_below BK_aA.out HP_.out) 2).trans rfl, (blk_cell (blk_below BK_aB.out HP_.out) 0).trans rfl, (blk_cell (blk_below BK_aB.out HP_.out) 1).trans rfl, (blk_cell (blk_below BK_aB.out HP_.out) 2).trans rfl⟩ (fun hHeld => ?_)
  clear hK K
  refine norm_ (a' := ?_) ?_ ?_
  rotate_left
  · show Act.put _ (some 32) _ = _
    simp only [Act.put, List.setIfInBounds_toArray, List.set_cons_zero, List.set_cons_succ, i64_w, i32_w]
    rfl
  refine one_ (i := 4) (N := some 34) #[true, true, true, true, true, false, false, false, false, false, false] rfl rfl (by kernel_rfl) (by decide) (fun K hK => ?_)
  refine goes_ Try.func10 (by kernel_rfl) rfl #[.agg #[.int .i64 a2_0, .slice A2_1 l2_1.length c2_1, .slice A2_2 l2_2.length c2_2]] (by rfl) rfl rfl (by (try simp only [List.map_toArray, List.map_cons, List.map_nil]); first | done | rfl | (simp only [List.length_drop, List.length_take]; rfl)) ?_
  with_reducible refine (laws_toAutomaton.calls k _ _ _ _ _ _ _ _ _ _ _ (Kd.C_below HR2_1.out (below_step HB.out HP_.out)) HC2_1.out (Kd.C_below HR2_2.out (below_step HB.out HP_.out)) HC2_2.out He_to_aB.out).mono ?_
  rintro e wq1 ⟨vq1a, vq1b, rfl, hf1a, hf1b, hb⟩
  refine ⟨_, rfl, ?_⟩
  have FQ1a := Aside0.mk (Kd.S_lower hf1a HP_.out.size)
  have FQ1b := Aside0.mk (Kd.R_lower hf1b HP_.out.size)
  replace HP_ := Aside0.mk (below_step HP_.out hb)
  replace FQ0a := Aside0.mk (Kd.S_below FQ0a.out hb)
  replace FQ0b := Aside0.mk (Kd.R_below FQ0b.out hb)
  clear hf1a hf1b hb
  obtain ⟨Aq1a_, cq1a_, eq1a_⟩ := Kd.S_slice FQ1a.out
  subst eq1a_
  obtain ⟨Aq1b_, cq1b_, eq1b_⟩ := Kd.R_slice FQ1b.out
  subst eq1b_
  refine hK.out _ _ ⟨(blk_cell (blk_below BK_aA.out HP_.out) 0).trans rfl, (blk_cell (blk_below BK_aA.out HP_.out) 1).trans rfl, (blk_cell (blk_below BK_aA.out HP_.out) 2).trans rfl, (blk_cell (blk_below BK_aB.out HP_.out) 0).trans rfl, (blk_cell (blk_below BK_aB.out HP_.out) 1).trans rfl, (blk_cell (blk_below BK_aB.out HP_.out) 2).trans rfl⟩ (fun hHeld => ?_)
  clear hK K
  refine norm_ (a' := ?_) ?_ ?_
  rotate_left
  · show Act.put _ (some 34) _ = _
    simp only [Act.put, List.setIfInBounds_toArray, List.set_cons_zero, List.set_cons_succ, i64_w, i32_w]
    rfl
  refine one_ (i := 5) (N := some 35) #[true, true, true, true, true, true, false, false, false, false, false] rfl rfl (by kernel_rfl) (by decide) (fun K hK => ?_)
  refine goes_ Try.func21 (by kernel_rfl) rfl #[.int .i64 a0, .agg #[.int .i64 a1_0, .slice Aq0a_ l1_1.length cq0a_, .slice Aq0b_ l1_2.length cq0b_], .agg #[.int .i64 a2_0, .slice Aq1a_ l2_1.length cq1a_, .slice Aq1b_ l2_2.length cq1b_]] (by rfl) rfl rfl (by (try simp only [List.map_toArray, List.map_cons, List.map_nil]); first | done | rfl | (simp only [List.length_drop, List.length_take]; rfl)) ?_
  with_reducible refine (spec_FirstWord.calls k _ _ _ _ _ _ _ _ _ _ _ _ _ _ _ _ _ _ (Kd.C_below (Kd.S_reads' FQ0a.out).2.2 (Below.refl _ _)) (Kd.S_reads' FQ0a.out).2.1 (Kd.C_below (Kd.R_reads' FQ0b.out).2.2 (Below.refl _ _)) (Kd.R_reads' FQ0b.out).2.1 (Kd.C_below (Kd.S_reads' FQ1a.out).2.2 (Below.refl _ _)) (Kd.S_reads' FQ1a.out).2.1 (Kd.C_below (Kd.R_reads' FQ1b.out).2.2 (Below.refl _ _)) (Kd.R_reads' FQ1b.out).2.1 He_spec.out).mono ?_
  rintro e w4 ⟨vq2, rfl, hf2, hb⟩
  refine ⟨_, rfl, ?_⟩
  have FQ2 := Aside0.mk (Kd.R_lower hf2 HP_.out.size)
  replace HP_ := Aside0.mk (below_step HP_.out hb)
  replace FQ0a := Aside0.mk (Kd.S_below FQ0a.out hb)
  replace FQ0b := Aside0.mk (Kd.R_below FQ0b.out hb)
  replace FQ1a := Aside0.mk (Kd.S_below FQ1a.out hb)
  replace FQ1b := Aside0.mk (Kd.R_below FQ1b.out hb)
  clear hf2 hb
  obtain ⟨Aq2_, cq2_, eq2_⟩ := Kd.R_slice FQ2.out
  subst eq2_
  refine hK.out _ _ ⟨(blk_cell (blk_below BK_aA.out HP_.out) 0).trans rfl, (blk_cell (blk_below BK_aA.out HP_.out) 1).trans rfl, (blk_cell (blk_below BK_aA.out HP_.out) 2).trans rfl, (blk_cell (blk_below BK_aB.out HP_.out) 0).trans rfl, (blk_cell (blk_below BK_aB.out HP_.out) 1).trans rfl, (blk_cell (blk_below BK_aB.out HP_.out) 2).trans rfl⟩ (fun hHeld => ?_)
  clear hK K
  refine norm_ (a' := ?_) ?_ ?_
  rotate_left
  · show Act.put _ (some 35) _ = _
    simp only [Act.put, List.setIfInBounds_toArray, List.set_cons_zero, List.set_cons_succ, i64_w, i32_w]
    rfl
  refine pure_ (i := 6) (N := some 29) (v := ?_) (a' := ?_) #[true, true, true, true, true, true, true, false, false, false, false] rfl rfl (by kernel_rfl) (fun _ _ _ h => h) (Or.inl ⟨by rfl, ?_⟩) ?_ ?_
  rotate_left
  · intro w'
    go_simp
    with_reducible rfl
  rotate_left
  · simp only [Act.put, List.setIfInBounds_toArray, List.set_cons_zero, List.set_cons_succ, i64_w, i32_w]
    rfl
  refine pure_ (i := 7) (N := some 36) (v := ?_) (a' := ?_) #[true, true, true, true, true, true, true, true, false, false, false] rfl rfl (by kernel_rfl) (fun _ _ _ h => h) (Or.inl ⟨by rfl, ?_⟩) ?_ ?_
  rotate_left
  · intro w'
    go_simp
    with_reducible rfl
  rotate_left
  · simp only [Act.put, List.setIfInBounds_toArray, List.set_cons_zero, List.set_cons_succ, i64_w, i32_w]
    rfl
  refine pure_ (i := 8) (N := some 37) (v := ?_) (a' := ?_) #[true, true, true, true, true, true, true, true, true, false, false] rfl rfl (by kernel_rfl) (fun _ _ _ h => h) (Or.inl ⟨by rfl, ?_⟩) ?_ ?_
  rotate_left
  · intro w'
    go_simp
    with_reducible rfl
  rotate_left
  · simp only [Act.put, List.setIfInBounds_toArray, List.set_cons_zero, List.set_cons_succ, i64_w, i32_w]
    rfl
  refine pure_ (i := 9) (N := some 8) (v := ?_) (a' := ?_) #[true, true, true, true, true, true, true, true, true, true, false] rfl rfl (by kernel_rfl) (fun _ _ _ h => h) (Or.inl ⟨by rfl, ?_⟩) ?_ ?_
  rotate_left
  · intro w'
    go_simp
    with_reducible rfl
  rotate_left
  · simp only [Act.put, List.setIfInBounds_toArray, List.set_cons_zero, List.set_cons_succ, i64_w, i32_w]
    rfl
  refine pure_ (i := 10) (N := some 9) (v := ?_) (a' := ?_) #[true, true, true, true, true, true, true, true, true, true, true] rfl rfl (by kernel_rfl) (fun _ _ _ h => h) (Or.inl ⟨by rfl, ?_⟩) ?_ ?_
  rotate_left
  · intro w'
    go_simp
    with_reducible rfl
  rotate_left
  · simp only [Act.put, List.setIfInBounds_toArray, List.set_cons_zero, List.set_cons_succ, i64_w, i32_w]
    rfl
  have hf1 := FQ2.out
  have hb := HP_.out
  clear HP_
  have HN := Aside0.mk HB.out.size
  have HW := Aside0.mk (below_step (w := w3) (by repeat (first | with_reducible exact Below.refl _ _ | with_reducible apply below_alloc | with_reducible refine below_set ?_ (Nat.le_refl _) | with_reducible apply pw_below_drewN | with_reducible apply below_drew1)) hb)
  have HZ4 : Aside0 (w3.heap.size ≤ w4.heap.size) := ⟨HW.out.size⟩
  replace HB := Aside0.mk (below_step HB.out HW.out)
  replace BK_aA := Aside0.mk (blk_below BK_aA.out HW.out)
  replace BK_aB := Aside0.mk (blk_below BK_aB.out HW.out)
  obtain ⟨lo1_, F1, HLO1⟩ := Own.R_iv (wN := w3) rfl hf1 HN.out (by repeat (first | with_reducible exact Below.refl _ _ | with_reducible apply below_alloc | with_reducible refine below_set ?_ (Nat.le_refl _) | with_reducible apply pw_below_drewN | with_reducible apply below_drew1)) hb
  clear hf1
  clear hb HW HN hHeld
  refine done_ (by kernel_rfl) ?_
  have czBK_aA_0 : w4.cell? ⟨w.heap.size, 0, none⟩ = some (.int .i64 a1_0) := (blk_cell BK_aA.out 0).trans rfl
  have czBK_aA_1 : w4.cell? ⟨w.heap.size, 1, none⟩ = some (.slice A1_1 l1_1.length c1_1) := (blk_cell BK_aA.out 1).trans rfl
  have czBK_aA_2 : w4.cell? ⟨w.heap.size, 2, none⟩ = some (.slice A1_2 l1_2.length c1_2) := (blk_cell BK_aA.out 2).trans rfl
  have czBK_aB_0 : w4.cell? ⟨(w.heap.size + 1), 0, none⟩ = some (.int .i64 a2_0) := (blk_cell BK_aB.out 0).trans rfl
  have czBK_aB_1 : w4.cell? ⟨(w.heap.size + 1), 1, none⟩ = some (.slice A2_1 l2_1.length c2_1) := (blk_cell BK_aB.out 1).trans rfl
  have czBK_aB_2 : w4.cell? ⟨(w.heap.size + 1), 2, none⟩ = some (.slice A2_2 l2_2.length c2_2) := (blk_cell BK_aB.out 2).trans rfl
  go_wp2_with fail
  refine (laws_toAutomaton.calls k _ _ _ _ _ _ _ _ _ _ _ (Kd.C_below HR1_1.out (below_step HB.out (by repeat (first | with_reducible exact Below.refl _ _ | with_reducible apply below_alloc | with_reducible refine below_set ?_ (Nat.le_refl _) | with_reducible apply pw_below_drewN | with_reducible apply below_drew1)))) HC1_1.out (Kd.C_below HR1_2.out (below_step HB.out (by repeat (first | with_reducible exact Below.refl _ _ | with_reducible apply below_alloc | with_reducible refine below_set ?_ (Nat.le_refl _) | with_reducible apply pw_below_drewN | with_reducible apply below_drew1)))) HC1_2.out He_to_aA.out).mono ?_
  rintro e w5 ⟨vx1_0, vx1_1, rfl, hf2, hf3, hb⟩
  clear czBK_aA_0 czBK_aA_1 czBK_aA_2 czBK_aB_0 czBK_aB_1 czBK_aB_2
  have HN := Aside0.mk HB.out.size
  have HW := Aside0.mk (below_step (w := w4) (by repeat (first | with_reducible exact Below.refl _ _ | with_reducible apply below_alloc | with_reducible refine below_set ?_ (Nat.le_refl _) | with_reducible apply pw_below_drewN | with_reducible apply below_drew1)) hb)
  have HZ5 : Aside0 (w4.heap.size ≤ w5.heap.size) := ⟨HW.out.size⟩
  replace HB := Aside0.mk (below_step HB.out HW.out)
  replace F1 := Aside0.mk (Kd.R_below F1.out HW.out)
  replace BK_aA := Aside0.mk (blk_below BK_aA.out HW.out)
  replace BK_aB := Aside0.mk (blk_below BK_aB.out HW.out)
  obtain ⟨lo2_, F2, HLO2⟩ := Own.S_iv (wN := w4) hf2 HN.out (by repeat (first | with_reducible exact Below.refl _ _ | with_reducible apply below_alloc | with_reducible refine below_set ?_ (Nat.le_refl _) | with_reducible apply pw_below_drewN | with_reducible apply below_drew1)) hb
  obtain ⟨lo3_, F3, HLO3⟩ := Own.R_iv (wN := w4) rfl hf3 HN.out (by repeat (first | with_reducible exact Below.refl _ _ | with_reducible apply below_alloc | with_reducible refine below_set ?_ (Nat.le_refl _) | with_reducible apply pw_below_drewN | with_reducible apply below_drew1)) hb
  obtain ⟨A2_, c2_, e2_⟩ := Kd.S_slice F2.out
  subst e2_
  obtain ⟨A3_, c3_, e3_⟩ := Kd.R_slice F3.out
  subst e3_
  clear hb HW HN hf2 hf3
  have czBK_aA_0 : (w5.alloc (.cells #[.int .i64 a1_0, .slice A2_ l1_1.length c2_, .slice A3_ l1_2.length c3_] 29)).cell? ⟨w.heap.size, 0, none⟩ = some (.int .i64 a1_0) := (blk_cell (blk_alloc BK_aA.out _) 0).trans rfl
  have czBK_aA_1 : (w5.alloc (.cells #[.int .i64 a1_0, .slice A2_ l1_1.length c2_, .slice A3_ l1_2.length c3_] 29)).cell? ⟨w.heap.size, 1, none⟩ = some (.slice A1_1 l1_1.length c1_1) := (blk_cell (blk_alloc BK_aA.out _) 1).trans rfl
  have czBK_aA_2 : (w5.alloc (.cells #[.int .i64 a1_0, .slice A2_ l1_1.length c2_, .slice A3_ l1_2.length c3_] 29)).cell? ⟨w.heap.size, 2, none⟩ = some (.slice A1_2 l1_2.length c1_2) := (blk_cell (blk_alloc BK_aA.out _) 2).trans rfl
  have czBK_aB_0 : (w5.alloc (.cells #[.int .i64 a1_0, .slice A2_ l1_1.length c2_, .slice A3_ l1_2.length c3_] 29)).cell? ⟨(w.heap.size + 1), 0, none⟩ = some (.int .i64 a2_0) := (blk_cell (blk_alloc BK_aB.out _) 0).trans rfl
  have czBK_aB_1 : (w5.alloc (.cells #[.int .i64 a1_0, .slice A2_ l1_1.length c2_, .slice A3_ l1_2.length c3_] 29)).cell? ⟨(w.heap.size + 1), 1, none⟩ = some (.slice A2_1 l2_1.length c2_1) := (blk_cell (blk_alloc BK_aB.out _) 1).trans rfl
  have czBK_aB_2 : (w5.alloc (.cells #[.int .i64 a1_0, .slice A2_ l1_1.length c2_, .slice A3_ l1_2.length c3_] 29)).cell? ⟨(w.heap.size + 1), 2, none⟩ = some (.slice A2_2 l2_2.length c2_2) := (blk_cell (blk_alloc BK_aB.out _) 2).trans rfl
  go_wp2_with fail
  refine (laws_toAutomaton.calls k _ _ _ _ _ _ _ _ _ _ _ (Kd.C_below HR2_1.out (below_step HB.out (by repeat (first | with_reducible exact Below.refl _ _ | with_reducible apply below_alloc | with_reducible refine below_set ?_ (Nat.le_refl _) | with_reducible apply pw_below_drewN | with_reducible apply below_drew1)))) HC2_1.out (Kd.C_below HR2_2.out (below_step HB.out (by repeat (first | with_reducible exact Below.refl _ _ | with_reducible apply below_alloc | with_reducible refine below_set ?_ (Nat.le_refl _) | with_reducible apply pw_below_drewN | with_reducible apply below_drew1)))) HC2_2.out He_to_aB.out).mono ?_
  rintro e w6 ⟨vx2_0, vx2_1, rfl, hf4, hf5, hb⟩
  clear czBK_aA_0 czBK_aA_1 czBK_aA_2 czBK_aB_0 czBK_aB_1 czBK_aB_2
  have HN := Aside0.mk HB.out.size
  have BK_x1 := Aside0.mk (blk_below (g := w5.heap.size) (o := .cells #[.int .i64 a1_0, .slice A2_ l1_1.length c2_, .slice A3_ l1_2.length c3_] 29 (0, 0)) (by (repeat (first | with_reducible refine blk_drewN ?_ _ | with_reducible refine blk_drew ?_)); exact (blk_new _ _)) hb)
  have HG_BK_x1 : Aside0 (w5.heap.size < w6.heap.size) := ⟨blk_lt BK_x1.out⟩
  have HW := Aside0.mk (below_step (w := w5) (by repeat (first | with_reducible exact Below.refl _ _ | with_reducible apply below_alloc | with_reducible refine below_set ?_ (Nat.le_refl _) | with_reducible apply pw_below_drewN | with_reducible apply below_drew1)) hb)
  have HZ6 : Aside0 (w5.heap.size ≤ w6.heap.size) := ⟨HW.out.size⟩
  replace HB := Aside0.mk (below_step HB.out HW.out)
  replace F1 := Aside0.mk (Kd.R_below F1.out HW.out)
  replace F2 := Aside0.mk (Kd.S_below F2.out HW.out)
  replace F3 := Aside0.mk (Kd.R_below F3.out HW.out)
  replace BK_aA := Aside0.mk (blk_below BK_aA.out HW.out)
  replace BK_aB := Aside0.mk (blk_below BK_aB.out HW.out)
  obtain ⟨lo4_, F4, HLO4⟩ := Own.S_ivb (wN := w5) (w5.heap.size) hf4 HN.out (by repeat (first | with_reducible exact Below.refl _ _ | with_reducible apply below_alloc | with_reducible refine below_set ?_ (Nat.le_refl _) | with_reducible apply pw_below_drewN | with_reducible apply below_drew1)) hb (blk_lt (o := .cells #[.int .i64 a1_0, .slice A2_ l1_1.length c2_, .slice A3_ l1_2.length c3_] 29 (0, 0)) (by (repeat (first | with_reducible refine blk_drewN ?_ _ | with_reducible refine blk_drew ?_)); exact (blk_new _ _)))
  obtain ⟨lo5_, F5, HLO5⟩ := Own.R_ivb (wN := w5) (w5.heap.size) rfl hf5 HN.out (by repeat (first | with_reducible exact Below.refl _ _ | with_reducible apply below_alloc | with_reducible refine below_set ?_ (Nat.le_refl _) | with_reducible apply pw_below_drewN | with_reducible apply below_drew1)) hb (blk_lt (o := .cells #[.int .i64 a1_0, .slice A2_ l1_1.length c2_, .slice A3_ l1_2.length c3_] 29 (0, 0)) (by (repeat (first | with_reducible refine blk_drewN ?_ _ | with_reducible refine blk_drew ?_)); exact (blk_new _ _)))
  obtain ⟨A4_, c4_, e4_⟩ := Kd.S_slice F4.out
  subst e4_
  obtain ⟨A5_, c5_, e5_⟩ := Kd.R_slice F5.out
  subst e5_
  clear hb HW HN hf4 hf5
  have czBK_aA_0 : (w6.alloc (.cells #[.int .i64 a2_0, .slice A4_ l2_1.length c4_, .slice A5_ l2_2.length c5_] 29)).cell? ⟨w.heap.size, 0, none⟩ = some (.int .i64 a1_0) := (blk_cell (blk_alloc BK_aA.out _) 0).trans rfl
  have czBK_aA_1 : (w6.alloc (.cells #[.int .i64 a2_0, .slice A4_ l2_1.length c4_, .slice A5_ l2_2.length c5_] 29)).cell? ⟨w.heap.size, 1, none⟩ = some (.slice A1_1 l1_1.length c1_1) := (blk_cell (blk_alloc BK_aA.out _) 1).trans rfl
  have czBK_aA_2 : (w6.alloc (.cells #[.int .i64 a2_0, .slice A4_ l2_1.length c4_, .slice A5_ l2_2.length c5_] 29)).cell? ⟨w.heap.size, 2, none⟩ = some (.slice A1_2 l1_2.length c1_2) := (blk_cell (blk_alloc BK_aA.out _) 2).trans rfl
  have czBK_aB_0 : (w6.alloc (.cells #[.int .i64 a2_0, .slice A4_ l2_1.length c4_, .slice A5_ l2_2.length c5_] 29)).cell? ⟨(w.heap.size + 1), 0, none⟩ = some (.int .i64 a2_0) := (blk_cell (blk_alloc BK_aB.out _) 0).trans rfl
  have czBK_aB_1 : (w6.alloc (.cells #[.int .i64 a2_0, .slice A4_ l2_1.length c4_, .slice A5_ l2_2.length c5_] 29)).cell? ⟨(w.heap.size + 1), 1, none⟩ = some (.slice A2_1 l2_1.length c2_1) := (blk_cell (blk_alloc BK_aB.out _) 1).trans rfl
  have czBK_aB_2 : (w6.alloc (.cells #[.int .i64 a2_0, .slice A4_ l2_1.length c4_, .slice A5_ l2_2.length c5_] 29)).cell? ⟨(w.heap.size + 1), 2, none⟩ = some (.slice A2_2 l2_2.length c2_2) := (blk_cell (blk_alloc BK_aB.out _) 2).trans rfl
  have czBK_x1_0 : (w6.alloc (.cells #[.int .i64 a2_0, .slice A4_ l2_1.length c4_, .slice A5_ l2_2.length c5_] 29)).cell? ⟨w5.heap.size, 0, none⟩ = some (.int .i64 a1_0) := (blk_cell (blk_alloc BK_x1.out _) 0).trans rfl
  have czBK_x1_1 : (w6.alloc (.cells #[.int .i64 a2_0, .slice A4_ l2_1.length c4_, .slice A5_ l2_2.length c5_] 29)).cell? ⟨w5.heap.size, 1, none⟩ = some (.slice A2_ l1_1.length c2_) := (blk_cell (blk_alloc BK_x1.out _) 1).trans rfl
  have czBK_x1_2 : (w6.alloc (.cells #[.int .i64 a2_0, .slice A4_ l2_1.length c4_, .slice A5_ l2_2.length c5_] 29)).cell? ⟨w5.heap.size, 2, none⟩ = some (.slice A3_ l1_2.length c3_) := (blk_cell (blk_alloc BK_x1.out _) 2).trans rfl
  go_wp2_with fail
  refine (impl_FirstWord.calls k _ _ _ _ _ _ _ _ _ _ _ _ _ _ _ _ _ _ (Kd.C_below (Kd.S_reads' F2.out).2.2 (by repeat (first | with_reducible exact Below.refl _ _ | with_reducible apply below_alloc | with_reducible refine below_set ?_ (Nat.le_refl _) | with_reducible apply pw_below_drewN | with_reducible apply below_drew1))) (Kd.S_reads' F2.out).2.1 (Kd.C_below (Kd.R_reads' F3.out).2.2 (by repeat (first | with_reducible exact Below.refl _ _ | with_reducible apply below_alloc | with_reducible refine below_set ?_ (Nat.le_refl _) | with_reducible apply pw_below_drewN | with_reducible apply below_drew1))) (Kd.R_reads' F3.out).2.1 (Kd.C_below (Kd.S_reads' F4.out).2.2 (by repeat (first | with_reducible exact Below.refl _ _ | with_reducible apply below_alloc | with_reducible refine below_set ?_ (Nat.le_refl _) | with_reducible apply pw_below_drewN | with_reducible apply below_drew1))) (Kd.S_reads' F4.out).2.1 (Kd.C_below (Kd.R_reads' F5.out).2.2 (by repeat (first | with_reducible exact Below.refl _ _ | with_reducible apply below_alloc | with_reducible refine below_set ?_ (Nat.le_refl _) | with_reducible apply pw_below_drewN | with_reducible apply below_drew1))) (Kd.R_reads' F5.out).2.1 He_impl.out).mono ?_
  rintro e w7 ⟨vg0_0, rfl, hf6, hb⟩
  clear czBK_aA_0 czBK_aA_1 czBK_aA_2 czBK_aB_0 czBK_aB_1 czBK_aB_2 czBK_x1_0 czBK_x1_1 czBK_x1_2
  have HN := Aside0.mk HB.out.size
  have BK_x2 := Aside0.mk (blk_below (g := w6.heap.size) (o := .cells #[.int .i64 a2_0, .slice A4_ l2_1.length c4_, .slice A5_ l2_2.length c5_] 29 (0, 0)) (by (repeat (first | with_reducible refine blk_drewN ?_ _ | with_reducible refine blk_drew ?_)); exact (blk_new _ _)) hb)
  have HG_BK_x2 : Aside0 (w6.heap.size < w7.heap.size) := ⟨blk_lt BK_x2.out⟩
  have HW := Aside0.mk (below_step (w := w6) (by repeat (first | with_reducible exact Below.refl _ _ | with_reducible apply below_alloc | with_reducible refine below_set ?_ (Nat.le_refl _) | with_reducible apply pw_below_drewN | with_reducible apply below_drew1)) hb)
  have HZ7 : Aside0 (w6.heap.size ≤ w7.heap.size) := ⟨HW.out.size⟩
  replace HB := Aside0.mk (below_step HB.out HW.out)
  replace F1 := Aside0.mk (Kd.R_below F1.out HW.out)
  replace F2 := Aside0.mk (Kd.S_below F2.out HW.out)
  replace F3 := Aside0.mk (Kd.R_below F3.out HW.out)
  replace F4 := Aside0.mk (Kd.S_below F4.out HW.out)
  replace F5 := Aside0.mk (Kd.R_below F5.out HW.out)
  replace BK_aA := Aside0.mk (blk_below BK_aA.out HW.out)
  replace BK_aB := Aside0.mk (blk_below BK_aB.out HW.out)
  replace BK_x1 := Aside0.mk (blk_below BK_x1.out HW.out)
  obtain ⟨lo6_, F6, HLO6⟩ := Own.R_ivb (wN := w6) (w6.heap.size) rfl hf6 HN.out (by repeat (first | with_reducible exact Below.refl _ _ | with_reducible apply below_alloc | with_reducible refine below_set ?_ (Nat.le_refl _) | with_reducible apply pw_below_drewN | with_reducible apply below_drew1)) hb (blk_lt (o := .cells #[.int .i64 a2_0, .slice A4_ l2_1.length c4_, .slice A5_ l2_2.length c5_] 29 (0, 0)) (by (repeat (first | with_reducible refine blk_drewN ?_ _ | with_reducible refine blk_drew ?_)); exact (blk_new _ _)))
  obtain ⟨A6_, c6_, e6_⟩ := Kd.R_slice F6.out
  subst e6_
  clear hb HW HN hf6
  have czBK_aA_0 : w7.cell? ⟨w.heap.size, 0, none⟩ = some (.int .i64 a1_0) := (blk_cell BK_aA.out 0).trans rfl
  have czBK_aA_1 : w7.cell? ⟨w.heap.size, 1, none⟩ = some (.slice A1_1 l1_1.length c1_1) := (blk_cell BK_aA.out 1).trans rfl
  have czBK_aA_2 : w7.cell? ⟨w.heap.size, 2, none⟩ = some (.slice A1_2 l1_2.length c1_2) := (blk_cell BK_aA.out 2).trans rfl
  have czBK_aB_0 : w7.cell? ⟨(w.heap.size + 1), 0, none⟩ = some (.int .i64 a2_0) := (blk_cell BK_aB.out 0).trans rfl
  have czBK_aB_1 : w7.cell? ⟨(w.heap.size + 1), 1, none⟩ = some (.slice A2_1 l2_1.length c2_1) := (blk_cell BK_aB.out 1).trans rfl
  have czBK_aB_2 : w7.cell? ⟨(w.heap.size + 1), 2, none⟩ = some (.slice A2_2 l2_2.length c2_2) := (blk_cell BK_aB.out 2).trans rfl
  have czBK_x1_0 : w7.cell? ⟨w5.heap.size, 0, none⟩ = some (.int .i64 a1_0) := (blk_cell BK_x1.out 0).trans rfl
  have czBK_x1_1 : w7.cell? ⟨w5.heap.size, 1, none⟩ = some (.slice A2_ l1_1.length c2_) := (blk_cell BK_x1.out 1).trans rfl
  have czBK_x1_2 : w7.cell? ⟨w5.heap.size, 2, none⟩ = some (.slice A3_ l1_2.length c3_) := (blk_cell BK_x1.out 2).trans rfl
  have czBK_x2_0 : w7.cell? ⟨w6.heap.size, 0, none⟩ = some (.int .i64 a2_0) := (blk_cell BK_x2.out 0).trans rfl
  have czBK_x2_1 : w7.cell? ⟨w6.heap.size, 1, none⟩ = some (.slice A4_ l2_1.length c4_) := (blk_cell BK_x2.out 1).trans rfl
  have czBK_x2_2 : w7.cell? ⟨w6.heap.size, 2, none⟩ = some (.slice A5_ l2_2.length c5_) := (blk_cell BK_x2.out 2).trans rfl
  go_wp2_with fail
  refine (laws_eqIntS.calls k _ _ _ _ _ _ _ _ (Kd.C_below (Kd.R_reads' F6.out).2.2 (by repeat (first | with_reducible exact Below.refl _ _ | with_reducible apply below_alloc | with_reducible refine below_set ?_ (Nat.le_refl _) | with_reducible apply pw_below_drewN | with_reducible apply below_drew1))) (Kd.R_reads' F6.out).2.1 (Kd.C_below (Kd.R_reads' F1.out).2.2 (by repeat (first | with_reducible exact Below.refl _ _ | with_reducible apply below_alloc | with_reducible refine below_set ?_ (Nat.le_refl _) | with_reducible apply pw_below_drewN | with_reducible apply below_drew1))) (Kd.R_reads' F1.out).2.1 He_eq_w0.out).mono ?_
  rintro e _ ⟨rfl, ⟨nd283_, rfl⟩⟩
  go_wp2_with fail
  refine start_ (n := 5) (S := fun w' => w'.cell? ⟨w5.heap.size, 0, none⟩ = some (.int .i64 a1_0) ∧ w'.cell? ⟨w5.heap.size, 1, none⟩ = some (.slice A2_ l1_1.length c2_) ∧ w'.cell? ⟨w5.heap.size, 2, none⟩ = some (.slice A3_ l1_2.length c3_) ∧ w'.cell? ⟨w.heap.size, 0, none⟩ = some (.int .i64 a1_0) ∧ w'.cell? ⟨w.heap.size, 1, none⟩ = some (.slice A1_1 l1_1.length c1_1) ∧ w'.cell? ⟨w.heap.size, 2, none⟩ = some (.slice A1_2 l1_2.length c1_2)) (ds := []) #[false, false, false, false, false] (by kernel_rfl) rfl rfl ⟨(blk_cell BK_x1.out 0).trans rfl, (blk_cell BK_x1.out 1).trans rfl, (blk_cell BK_x1.out 2).trans rfl, (blk_cell BK_aA.out 0).trans rfl, (blk_cell BK_aA.out 1).trans rfl, (blk_cell BK_aA.out 2).trans rfl⟩ (fun hHeld => ?_)
  refine Own.anew_ (wN := w7) (by repeat (first | with_reducible exact Below.refl _ _ | with_reducible apply below_alloc | with_reducible refine below_set ?_ (Nat.le_refl _) | with_reducible apply pw_below_drewN | with_reducible apply below_drew1)) hHeld (fun w8 hb hHeld => ?_)
  clear czBK_aA_0 czBK_aA_1 czBK_aA_2 czBK_aB_0 czBK_aB_1 czBK_aB_2 czBK_x1_0 czBK_x1_1 czBK_x1_2 czBK_x2_0 czBK_x2_1 czBK_x2_2
  have HW := Aside0.mk hb
  have HZ8 : Aside0 (w7.heap.size ≤ w8.heap.size) := ⟨HW.out.size⟩
  replace HB := Aside0.mk (below_step HB.out HW.out)
  replace F1 := Aside0.mk (Kd.R_below F1.out HW.out)
  replace F2 := Aside0.mk (Kd.S_below F2.out HW.out)
  replace F3 := Aside0.mk (Kd.R_below F3.out HW.out)
  replace F4 := Aside0.mk (Kd.S_below F4.out HW.out)
  replace F5 := Aside0.mk (Kd.R_below F5.out HW.out)
  replace F6 := Aside0.mk (Kd.R_below F6.out HW.out)
  replace BK_aA := Aside0.mk (blk_below BK_aA.out HW.out)
  replace BK_aB := Aside0.mk (blk_below BK_aB.out HW.out)
  replace BK_x1 := Aside0.mk (blk_below BK_x1.out HW.out)
  replace BK_x2 := Aside0.mk (blk_below BK_x2.out HW.out)
  clear hb HW
  refine take_ (i := 0) (N := some 58) (v := ?_) (a' := ?_) #[true, false, false, false, false] rfl rfl (by kernel_rfl) (fun _ _ _ h => h) (Or.inl ⟨by rfl, ?_⟩) hHeld ?_ ?_
  rotate_left
  · rintro w' ⟨s0_, s1_, s2_, s3_, s4_, s5_⟩
    go_simp
    with_reducible rfl
  rotate_left
  · simp only [Act.put, List.setIfInBounds_toArray, List.set_cons_zero, List.set_cons_succ, i64_w, i32_w]
    rfl
  refine take_ (i := 1) (N := some 59) (v := ?_) (a' := ?_) #[true, true, false, false, false] rfl rfl (by kernel_rfl) (fun _ _ _ h => h) (Or.inl ⟨by rfl, ?_⟩) hHeld ?_ ?_
  rotate_left
  · rintro w' ⟨s0_, s1_, s2_, s3_, s4_, s5_⟩
    go_simp
    with_reducible rfl
  rotate_left
  · simp only [Act.put, List.setIfInBounds_toArray, List.set_cons_zero, List.set_cons_succ, i64_w, i32_w]
    rfl
  refine one_ (i := 2) (N := some 60) #[true, true, true, false, false] rfl rfl (by kernel_rfl) (by decide) (fun K hK => ?_)
  refine goes_ Try.func10 (by kernel_rfl) rfl #[.agg #[.int .i64 a1_0, .slice A1_1 l1_1.length c1_1, .slice A1_2 l1_2.length c1_2]] (by rfl) rfl rfl (by (try simp only [List.map_toArray, List.map_cons, List.map_nil]); first | done | rfl | (simp only [List.length_drop, List.length_take]; rfl)) ?_
  with_reducible refine (laws_toAutomaton.calls k _ _ _ _ _ _ _ _ _ _ _ (Kd.C_below HR1_1.out (below_step HB.out (by repeat (first | with_reducible exact Below.refl _ _ | with_reducible apply below_alloc | with_reducible refine below_set ?_ (Nat.le_refl _) | with_reducible apply pw_below_drewN | with_reducible apply below_drew1)))) HC1_1.out (Kd.C_below HR1_2.out (below_step HB.out (by repeat (first | with_reducible exact Below.refl _ _ | with_reducible apply below_alloc | with_reducible refine below_set ?_ (Nat.le_refl _) | with_reducible apply pw_below_drewN | with_reducible apply below_drew1)))) HC1_2.out He_to_aA.out).mono ?_
  rintro e w9 ⟨vq8_0, vq8_1, rfl, hf7, hf8, hb⟩
  refine ⟨_, rfl, ?_⟩
  have HN := Aside0.mk HB.out.size
  have HW := Aside0.mk (below_step (w := w8) (by repeat (first | with_reducible exact Below.refl _ _ | with_reducible apply below_alloc | with_reducible refine below_set ?_ (Nat.le_refl _) | with_reducible apply pw_below_drewN | with_reducible apply below_drew1)) hb)
  have HZ9 : Aside0 (w8.heap.size ≤ w9.heap.size) := ⟨HW.out.size⟩
  replace HB := Aside0.mk (below_step HB.out HW.out)
  replace F1 := Aside0.mk (Kd.R_below F1.out HW.out)
  replace F2 := Aside0.mk (Kd.S_below F2.out HW.out)
  replace F3 := Aside0.mk (Kd.R_below F3.out HW.out)
  replace F4 := Aside0.mk (Kd.S_below F4.out HW.out)
  replace F5 := Aside0.mk (Kd.R_below F5.out HW.out)
  replace F6 := Aside0.mk (Kd.R_below F6.out HW.out)
  replace BK_aA := Aside0.mk (blk_below BK_aA.out HW.out)
  replace BK_aB := Aside0.mk (blk_below BK_aB.out HW.out)
  replace BK_x1 := Aside0.mk (blk_below BK_x1.out HW.out)
  replace BK_x2 := Aside0.mk (blk_below BK_x2.out HW.out)
  obtain ⟨lo7_, F7, HLO7⟩ := Own.S_iv (wN := w8) hf7 HN.out (by repeat (first | with_reducible exact Below.refl _ _ | with_reducible apply below_alloc | with_reducible refine below_set ?_ (Nat.le_refl _) | with_reducible apply pw_below_drewN | with_reducible apply below_drew1)) hb
  obtain ⟨lo8_, F8, HLO8⟩ := Own.R_iv (wN := w8) rfl hf8 HN.out (by repeat (first | with_reducible exact Below.refl _ _ | with_reducible apply below_alloc | with_reducible refine below_set ?_ (Nat.le_refl _) | with_reducible apply pw_below_drewN | with_reducible apply below_drew1)) hb
  obtain ⟨A7_, c7_, e7_⟩ := Kd.S_slice F7.out
  subst e7_
  obtain ⟨A8_, c8_, e8_⟩ := Kd.R_slice F8.out
  subst e8_
  clear hb HW HN hf7 hf8
  refine hK.out _ _ ⟨(blk_cell BK_x1.out 0).trans rfl, (blk_cell BK_x1.out 1).trans rfl, (blk_cell BK_x1.out 2).trans rfl, (blk_cell BK_aA.out 0).trans rfl, (blk_cell BK_aA.out 1).trans rfl, (blk_cell BK_aA.out 2).trans rfl⟩ (fun hHeld => ?_)
  clear hK K
  refine norm_ (a' := ?_) ?_ ?_
  rotate_left
  · show Act.put _ (some 60) _ = _
    simp only [Act.put, List.setIfInBounds_toArray, List.set_cons_zero, List.set_cons_succ, i64_w, i32_w]
    rfl
  refine one_ (i := 3) (N := some 61) #[true, true, true, true, false] rfl rfl (by kernel_rfl) (by decide) (fun K hK => ?_)
  refine goes_ Try.func12 (by kernel_rfl) rfl #[.agg #[.int .i64 a1_0, .slice A2_ l1_1.length c2_, .slice A3_ l1_2.length c3_], .agg #[.int .i64 a1_0, .slice A7_ l1_1.length c7_, .slice A8_ l1_2.length c8_]] (by rfl) rfl rfl (by (try simp only [List.map_toArray, List.map_cons, List.map_nil]); first | done | rfl | (simp only [List.length_drop, List.length_take]; rfl)) ?_
  with_reducible refine (laws_eqAutomaton.calls k _ _ _ _ _ _ _ _ _ _ _ _ _ _ _ _ (Kd.C_below (Kd.S_reads' F2.out).2.2 (by repeat (first | with_reducible exact Below.refl _ _ | with_reducible apply below_alloc | with_reducible refine below_set ?_ (Nat.le_refl _) | with_reducible apply pw_below_drewN | with_reducible apply below_drew1))) (Kd.S_reads' F2.out).2.1 (Kd.C_below (Kd.R_reads' F3.out).2.2 (by repeat (first | with_reducible exact Below.refl _ _ | with_reducible apply below_alloc | with_reducible refine below_set ?_ (Nat.le_refl _) | with_reducible apply pw_below_drewN | with_reducible apply below_drew1))) (Kd.R_reads' F3.out).2.1 (Kd.C_below (Kd.S_reads' F7.out).2.2 (by repeat (first | with_reducible exact Below.refl _ _ | with_reducible apply below_alloc | with_reducible refine below_set ?_ (Nat.le_refl _) | with_reducible apply pw_below_drewN | with_reducible apply below_drew1))) (Kd.S_reads' F7.out).2.1 (Kd.C_below (Kd.R_reads' F8.out).2.2 (by repeat (first | with_reducible exact Below.refl _ _ | with_reducible apply below_alloc | with_reducible refine below_set ?_ (Nat.le_refl _) | with_reducible apply pw_below_drewN | with_reducible apply below_drew1))) (Kd.R_reads' F8.out).2.1 He_eq_x1.out).mono ?_
  rintro e w10 ⟨rfl, hb⟩
  refine ⟨_, rfl, ?_⟩
  have HW := Aside0.mk (below_step (w := w9) (by repeat (first | with_reducible exact Below.refl _ _ | with_reducible apply below_alloc | with_reducible refine below_set ?_ (Nat.le_refl _) | with_reducible apply pw_below_drewN | with_reducible apply below_drew1)) hb)
  have HZ10 : Aside0 (w9.heap.size ≤ w10.heap.size) := ⟨HW.out.size⟩
  replace HB := Aside0.mk (below_step HB.out HW.out)
  replace F1 := Aside0.mk (Kd.R_below F1.out HW.out)
  replace F2 := Aside0.mk (Kd.S_below F2.out HW.out)
  replace F3 := Aside0.mk (Kd.R_below F3.out HW.out)
  replace F4 := Aside0.mk (Kd.S_below F4.out HW.out)
  replace F5 := Aside0.mk (Kd.R_below F5.out HW.out)
  replace F6 := Aside0.mk (Kd.R_below F6.out HW.out)
  replace BK_aA := Aside0.mk (blk_below BK_aA.out HW.out)
  replace BK_aB := Aside0.mk (blk_below BK_aB.out HW.out)
  replace BK_x1 := Aside0.mk (blk_below BK_x1.out HW.out)
  replace BK_x2 := Aside0.mk (blk_below BK_x2.out HW.out)
  clear hb HW
  refine hK.out _ _ ⟨(blk_cell BK_x1.out 0).trans rfl, (blk_cell BK_x1.out 1).trans rfl, (blk_cell BK_x1.out 2).trans rfl, (blk_cell BK_aA.out 0).trans rfl, (blk_cell BK_aA.out 1).trans rfl, (blk_cell BK_aA.out 2).trans rfl⟩ (fun hHeld => ?_)
  clear hK K
  refine norm_ (a' := ?_) ?_ ?_
  rotate_left
  · show Act.put _ (some 61) _ = _
    simp only [Act.put, List.setIfInBounds_toArray, List.set_cons_zero, List.set_cons_succ, i64_w, i32_w]
    rfl
  refine pure_ (i := 4) (N := some 62) (v := ?_) (a' := ?_) #[true, true, true, true, true] rfl rfl (by kernel_rfl) (fun _ _ _ h => h) (Or.inl ⟨by rfl, ?_⟩) ?_ ?_
  rotate_left
  · intro w'
    go_simp
    with_reducible rfl
  rotate_left
  · simp only [Act.put, List.setIfInBounds_toArray, List.set_cons_zero, List.set_cons_succ, i64_w, i32_w]
    rfl
  refine done_ (by kernel_rfl) ?_
  clear hHeld
  have czBK_aA_0 : w10.cell? ⟨w.heap.size, 0, none⟩ = some (.int .i64 a1_0) := (blk_cell BK_aA.out 0).trans rfl
  have czBK_aA_1 : w10.cell? ⟨w.heap.size, 1, none⟩ = some (.slice A1_1 l1_1.length c1_1) := (blk_cell BK_aA.out 1).trans rfl
  have czBK_aA_2 : w10.cell? ⟨w.heap.size, 2, none⟩ = some (.slice A1_2 l1_2.length c1_2) := (blk_cell BK_aA.out 2).trans rfl
  have czBK_aB_0 : w10.cell? ⟨(w.heap.size + 1), 0, none⟩ = some (.int .i64 a2_0) := (blk_cell BK_aB.out 0).trans rfl
  have czBK_aB_1 : w10.cell? ⟨(w.heap.size + 1), 1, none⟩ = some (.slice A2_1 l2_1.length c2_1) := (blk_cell BK_aB.out 1).trans rfl
  have czBK_aB_2 : w10.cell? ⟨(w.heap.size + 1), 2, none⟩ = some (.slice A2_2 l2_2.length c2_2) := (blk_cell BK_aB.out 2).trans rfl
  have czBK_x1_0 : w10.cell? ⟨w5.heap.size, 0, none⟩ = some (.int .i64 a1_0) := (blk_cell BK_x1.out 0).trans rfl
  have czBK_x1_1 : w10.cell? ⟨w5.heap.size, 1, none⟩ = some (.slice A2_ l1_1.length c2_) := (blk_cell BK_x1.out 1).trans rfl
  have czBK_x1_2 : w10.cell? ⟨w5.heap.size, 2, none⟩ = some (.slice A3_ l1_2.length c3_) := (blk_cell BK_x1.out 2).trans rfl
  have czBK_x2_0 : w10.cell? ⟨w6.heap.size, 0, none⟩ = some (.int .i64 a2_0) := (blk_cell BK_x2.out 0).trans rfl
  have czBK_x2_1 : w10.cell? ⟨w6.heap.size, 1, none⟩ = some (.slice A4_ l2_1.length c4_) := (blk_cell BK_x2.out 1).trans rfl
  have czBK_x2_2 : w10.cell? ⟨w6.heap.size, 2, none⟩ = some (.slice A5_ l2_2.length c5_) := (blk_cell BK_x2.out 2).trans rfl
  go_wp2_with fail
  refine start_ (n := 5) (S := fun w' => w'.cell? ⟨w6.heap.size, 0, none⟩ = some (.int .i64 a2_0) ∧ w'.cell? ⟨w6.heap.size, 1, none⟩ = some (.slice A4_ l2_1.length c4_) ∧ w'.cell? ⟨w6.heap.size, 2, none⟩ = some (.slice A5_ l2_2.length c5_) ∧ w'.cell? ⟨(w.heap.size + 1), 0, none⟩ = some (.int .i64 a2_0) ∧ w'.cell? ⟨(w.heap.size + 1), 1, none⟩ = some (.slice A2_1 l2_1.length c2_1) ∧ w'.cell? ⟨(w.heap.size + 1), 2, none⟩ = some (.slice A2_2 l2_2.length c2_2)) (ds := []) #[false, false, false, false, false] (by kernel_rfl) rfl rfl ⟨(blk_cell BK_x2.out 0).trans rfl, (blk_cell BK_x2.out 1).trans rfl, (blk_cell BK_x2.out 2).trans rfl, (blk_cell BK_aB.out 0).trans rfl, (blk_cell BK_aB.out 1).trans rfl, (blk_cell BK_aB.out 2).trans rfl⟩ (fun hHeld => ?_)
  refine Own.anew_ (wN := w10) (by repeat (first | with_reducible exact Below.refl _ _ | with_reducible apply below_alloc | with_reducible refine below_set ?_ (Nat.le_refl _) | with_reducible apply pw_below_drewN | with_reducible apply below_drew1)) hHeld (fun w11 hb hHeld => ?_)
  clear czBK_aA_0 czBK_aA_1 czBK_aA_2 czBK_aB_0 czBK_aB_1 czBK_aB_2 czBK_x1_0 czBK_x1_1 czBK_x1_2 czBK_x2_0 czBK_x2_1 czBK_x2_2
  have HW := Aside0.mk hb
  have HZ11 : Aside0 (w10.heap.size ≤ w11.heap.size) := ⟨HW.out.size⟩
  replace HB := Aside0.mk (below_step HB.out HW.out)
  replace F1 := Aside0.mk (Kd.R_below F1.out HW.out)
  replace F2 := Aside0.mk (Kd.S_below F2.out HW.out)
  replace F3 := Aside0.mk (Kd.R_below F3.out HW.out)
  replace F4 := Aside0.mk (Kd.S_below F4.out HW.out)
  replace F5 := Aside0.mk (Kd.R_below F5.out HW.out)
  replace F6 := Aside0.mk (Kd.R_below F6.out HW.out)
  replace BK_aA := Aside0.mk (blk_below BK_aA.out HW.out)
  replace BK_aB := Aside0.mk (blk_below BK_aB.out HW.out)
  replace BK_x1 := Aside0.mk (blk_below BK_x1.out HW.out)
  replace BK_x2 := Aside0.mk (blk_below BK_x2.out HW.out)
  clear hb HW
  refine take_ (i := 0) (N := some 63) (v := ?_) (a' := ?_) #[true, false, false, false, false] rfl rfl (by kernel_rfl) (fun _ _ _ h => h) (Or.inl ⟨by rfl, ?_⟩) hHeld ?_ ?_
  rotate_left
  · rintro w' ⟨s0_, s1_, s2_, s3_, s4_, s5_⟩
    go_simp
    with_reducible rfl
  rotate_left
  · simp only [Act.put, List.setIfInBounds_toArray, List.set_cons_zero, List.set_cons_succ, i64_w, i32_w]
    rfl
  refine take_ (i := 1) (N := some 64) (v := ?_) (a' := ?_) #[true, true, false, false, false] rfl rfl (by kernel_rfl) (fun _ _ _ h => h) (Or.inl ⟨by rfl, ?_⟩) hHeld ?_ ?_
  rotate_left
  · rintro w' ⟨s0_, s1_, s2_, s3_, s4_, s5_⟩
    go_simp
    with_reducible rfl
  rotate_left
  · simp only [Act.put, List.setIfInBounds_toArray, List.set_cons_zero, List.set_cons_succ, i64_w, i32_w]
    rfl
  refine one_ (i := 2) (N := some 65) #[true, true, true, false, false] rfl rfl (by kernel_rfl) (by decide) (fun K hK => ?_)
  refine goes_ Try.func10 (by kernel_rfl) rfl #[.agg #[.int .i64 a2_0, .slice A2_1 l2_1.length c2_1, .slice A2_2 l2_2.length c2_2]] (by rfl) rfl rfl (by (try simp only [List.map_toArray, List.map_cons, List.map_nil]); first | done | rfl | (simp only [List.length_drop, List.length_take]; rfl)) ?_
  with_reducible refine (laws_toAutomaton.calls k _ _ _ _ _ _ _ _ _ _ _ (Kd.C_below HR2_1.out (below_step HB.out (by repeat (first | with_reducible exact Below.refl _ _ | with_reducible apply below_alloc | with_reducible refine below_set ?_ (Nat.le_refl _) | with_reducible apply pw_below_drewN | with_reducible apply below_drew1)))) HC2_1.out (Kd.C_below HR2_2.out (below_step HB.out (by repeat (first | with_reducible exact Below.refl _ _ | with_reducible apply below_alloc | with_reducible refine below_set ?_ (Nat.le_refl _) | with_reducible apply pw_below_drewN | with_reducible apply below_drew1)))) HC2_2.out He_to_aB.out).mono ?_
  rintro e w12 ⟨vq11_0, vq11_1, rfl, hf9, hf10, hb⟩
  refine ⟨_, rfl, ?_⟩
  have HN := Aside0.mk HB.out.size
  have HW := Aside0.mk (below_step (w := w11) (by repeat (first | with_reducible exact Below.refl _ _ | with_reducible apply below_alloc | with_reducible refine below_set ?_ (Nat.le_refl _) | with_reducible apply pw_below_drewN | with_reducible apply below_drew1)) hb)
  have HZ12 : Aside0 (w11.heap.size ≤ w12.heap.size) := ⟨HW.out.size⟩
  replace HB := Aside0.mk (below_step HB.out HW.out)
  replace F1 := Aside0.mk (Kd.R_below F1.out HW.out)
  replace F2 := Aside0.mk (Kd.S_below F2.out HW.out)
  replace F3 := Aside0.mk (Kd.R_below F3.out HW.out)
  replace F4 := Aside0.mk (Kd.S_below F4.out HW.out)
  replace F5 := Aside0.mk (Kd.R_below F5.out HW.out)
  replace F6 := Aside0.mk (Kd.R_below F6.out HW.out)
  replace BK_aA := Aside0.mk (blk_below BK_aA.out HW.out)
  replace BK_aB := Aside0.mk (blk_below BK_aB.out HW.out)
  replace BK_x1 := Aside0.mk (blk_below BK_x1.out HW.out)
  replace BK_x2 := Aside0.mk (blk_below BK_x2.out HW.out)
  obtain ⟨lo9_, F9, HLO9⟩ := Own.S_iv (wN := w11) hf9 HN.out (by repeat (first | with_reducible exact Below.refl _ _ | with_reducible apply below_alloc | with_reducible refine below_set ?_ (Nat.le_refl _) | with_reducible apply pw_below_drewN | with_reducible apply below_drew1)) hb
  obtain ⟨lo10_, F10, HLO10⟩ := Own.R_iv (wN := w11) rfl hf10 HN.out (by repeat (first | with_reducible exact Below.refl _ _ | with_reducible apply below_alloc | with_reducible refine below_set ?_ (Nat.le_refl _) | with_reducible apply pw_below_drewN | with_reducible apply below_drew1)) hb
  obtain ⟨A9_, c9_, e9_⟩ := Kd.S_slice F9.out
  subst e9_
  obtain ⟨A10_, c10_, e10_⟩ := Kd.R_slice F10.out
  subst e10_
  clear hb HW HN hf9 hf10
  refine hK.out _ _ ⟨(blk_cell BK_x2.out 0).trans rfl, (blk_cell BK_x2.out 1).trans rfl, (blk_cell BK_x2.out 2).trans rfl, (blk_cell BK_aB.out 0).trans rfl, (blk_cell BK_aB.out 1).trans rfl, (blk_cell BK_aB.out 2).trans rfl⟩ (fun hHeld => ?_)
  clear hK K
  refine norm_ (a' := ?_) ?_ ?_
  rotate_left
  · show Act.put _ (some 65) _ = _
    simp only [Act.put, List.setIfInBounds_toArray, List.set_cons_zero, List.set_cons_succ, i64_w, i32_w]
    rfl
  refine one_ (i := 3) (N := some 66) #[true, true, true, true, false] rfl rfl (by kernel_rfl) (by decide) (fun K hK => ?_)
  refine goes_ Try.func12 (by kernel_rfl) rfl #[.agg #[.int .i64 a2_0, .slice A4_ l2_1.length c4_, .slice A5_ l2_2.length c5_], .agg #[.int .i64 a2_0, .slice A9_ l2_1.length c9_, .slice A10_ l2_2.length c10_]] (by rfl) rfl rfl (by (try simp only [List.map_toArray, List.map_cons, List.map_nil]); first | done | rfl | (simp only [List.length_drop, List.length_take]; rfl)) ?_
  with_reducible refine (laws_eqAutomaton.calls k _ _ _ _ _ _ _ _ _ _ _ _ _ _ _ _ (Kd.C_below (Kd.S_reads' F4.out).2.2 (by repeat (first | with_reducible exact Below.refl _ _ | with_reducible apply below_alloc | with_reducible refine below_set ?_ (Nat.le_refl _) | with_reducible apply pw_below_drewN | with_reducible apply below_drew1))) (Kd.S_reads' F4.out).2.1 (Kd.C_below (Kd.R_reads' F5.out).2.2 (by repeat (first | with_reducible exact Below.refl _ _ | with_reducible apply below_alloc | with_reducible refine below_set ?_ (Nat.le_refl _) | with_reducible apply pw_below_drewN | with_reducible apply below_drew1))) (Kd.R_reads' F5.out).2.1 (Kd.C_below (Kd.S_reads' F9.out).2.2 (by repeat (first | with_reducible exact Below.refl _ _ | with_reducible apply below_alloc | with_reducible refine below_set ?_ (Nat.le_refl _) | with_reducible apply pw_below_drewN | with_reducible apply below_drew1))) (Kd.S_reads' F9.out).2.1 (Kd.C_below (Kd.R_reads' F10.out).2.2 (by repeat (first | with_reducible exact Below.refl _ _ | with_reducible apply below_alloc | with_reducible refine below_set ?_ (Nat.le_refl _) | with_reducible apply pw_below_drewN | with_reducible apply below_drew1))) (Kd.R_reads' F10.out).2.1 He_eq_x2.out).mono ?_
  rintro e w13 ⟨rfl, hb⟩
  refine ⟨_, rfl, ?_⟩
  have HW := Aside0.mk (below_step (w := w12) (by repeat (first | with_reducible exact Below.refl _ _ | with_reducible apply below_alloc | with_reducible refine below_set ?_ (Nat.le_refl _) | with_reducible apply pw_below_drewN | with_reducible apply below_drew1)) hb)
  have HZ13 : Aside0 (w12.heap.size ≤ w13.heap.size) := ⟨HW.out.size⟩
  replace HB := Aside0.mk (below_step HB.out HW.out)
  replace F1 := Aside0.mk (Kd.R_below F1.out HW.out)
  replace F2 := Aside0.mk (Kd.S_below F2.out HW.out)
  replace F3 := Aside0.mk (Kd.R_below F3.out HW.out)
  replace F4 := Aside0.mk (Kd.S_below F4.out HW.out)
  replace F5 := Aside0.mk (Kd.R_below F5.out HW.out)
  replace F6 := Aside0.mk (Kd.R_below F6.out HW.out)
  replace BK_aA := Aside0.mk (blk_below BK_aA.out HW.out)
  replace BK_aB := Aside0.mk (blk_below BK_aB.out HW.out)
  replace BK_x1 := Aside0.mk (blk_below BK_x1.out HW.out)
  replace BK_x2 := Aside0.mk (blk_below BK_x2.out HW.out)
  clear hb HW
  refine hK.out _ _ ⟨(blk_cell BK_x2.out 0).trans rfl, (blk_cell BK_x2.out 1).trans rfl, (blk_cell BK_x2.out 2).trans rfl, (blk_cell BK_aB.out 0).trans rfl, (blk_cell BK_aB.out 1).trans rfl, (blk_cell BK_aB.out 2).trans rfl⟩ (fun hHeld => ?_)
  clear hK K
  refine norm_ (a' := ?_) ?_ ?_
  rotate_left
  · show Act.put _ (some 66) _ = _
    simp only [Act.put, List.setIfInBounds_toArray, List.set_cons_zero, List.set_cons_succ, i64_w, i32_w]
    rfl
  refine pure_ (i := 4) (N := some 67) (v := ?_) (a' := ?_) #[true, true, true, true, true] rfl rfl (by kernel_rfl) (fun _ _ _ h => h) (Or.inl ⟨by rfl, ?_⟩) ?_ ?_
  rotate_left
  · intro w'
    go_simp
    with_reducible rfl
  rotate_left
  · simp only [Act.put, List.setIfInBounds_toArray, List.set_cons_zero, List.set_cons_succ, i64_w, i32_w]
    rfl
  refine done_ (by kernel_rfl) ?_
  clear hHeld
  have czBK_aA_0 : w13.cell? ⟨w.heap.size, 0, none⟩ = some (.int .i64 a1_0) := (blk_cell BK_aA.out 0).trans rfl
  have czBK_aA_1 : w13.cell? ⟨w.heap.size, 1, none⟩ = some (.slice A1_1 l1_1.length c1_1) := (blk_cell BK_aA.out 1).trans rfl
  have czBK_aA_2 : w13.cell? ⟨w.heap.size, 2, none⟩ = some (.slice A1_2 l1_2.length c1_2) := (blk_cell BK_aA.out 2).trans rfl
  have czBK_aB_0 : w13.cell? ⟨(w.heap.size + 1), 0, none⟩ = some (.int .i64 a2_0) := (blk_cell BK_aB.out 0).trans rfl
  have czBK_aB_1 : w13.cell? ⟨(w.heap.size + 1), 1, none⟩ = some (.slice A2_1 l2_1.length c2_1) := (blk_cell BK_aB.out 1).trans rfl
  have czBK_aB_2 : w13.cell? ⟨(w.heap.size + 1), 2, none⟩ = some (.slice A2_2 l2_2.length c2_2) := (blk_cell BK_aB.out 2).trans rfl
  have czBK_x1_0 : w13.cell? ⟨w5.heap.size, 0, none⟩ = some (.int .i64 a1_0) := (blk_cell BK_x1.out 0).trans rfl
  have czBK_x1_1 : w13.cell? ⟨w5.heap.size, 1, none⟩ = some (.slice A2_ l1_1.length c2_) := (blk_cell BK_x1.out 1).trans rfl
  have czBK_x1_2 : w13.cell? ⟨w5.heap.size, 2, none⟩ = some (.slice A3_ l1_2.length c3_) := (blk_cell BK_x1.out 2).trans rfl
  have czBK_x2_0 : w13.cell? ⟨w6.heap.size, 0, none⟩ = some (.int .i64 a2_0) := (blk_cell BK_x2.out 0).trans rfl
  have czBK_x2_1 : w13.cell? ⟨w6.heap.size, 1, none⟩ = some (.slice A4_ l2_1.length c4_) := (blk_cell BK_x2.out 1).trans rfl
  have czBK_x2_2 : w13.cell? ⟨w6.heap.size, 2, none⟩ = some (.slice A5_ l2_2.length c5_) := (blk_cell BK_x2.out 2).trans rfl
  go_wp2_with fail
  refine (laws_markAutomaton.calls k _ _ _ _ _ _ _ _ _ _ _ w _ (below_step HB.out (by repeat (first | with_reducible exact Below.refl _ _ | with_reducible apply below_alloc | with_reducible refine below_set ?_ (Nat.le_refl _) | with_reducible apply pw_below_drewN | with_reducible apply below_drew1))) (Kd.S_below F2.out (by repeat (first | with_reducible exact Below.refl _ _ | with_reducible apply below_alloc | with_reducible refine below_set ?_ (Nat.le_refl _) | with_reducible apply pw_below_drewN | with_reducible apply below_drew1))) (Kd.R_below F3.out (by repeat (first | with_reducible exact Below.refl _ _ | with_reducible apply below_alloc | with_reducible refine below_set ?_ (Nat.le_refl _) | with_reducible apply pw_below_drewN | with_reducible apply below_drew1))) (fun k_ h1 h2 => h1.1 h2.1) He_mark_x1.out).mono ?_
  rintro e w14 ⟨rfl, hf_F2, hf_F3, hb, hk⟩
  clear czBK_aA_0 czBK_aA_1 czBK_aA_2 czBK_aB_0 czBK_aB_1 czBK_aB_2 czBK_x1_0 czBK_x1_1 czBK_x1_2 czBK_x2_0 czBK_x2_1 czBK_x2_2
  have HW := Aside0.mk ((Kept.of_below (w := w13) (by repeat (first | with_reducible exact Below.refl _ _ | with_reducible apply below_alloc | with_reducible refine below_set ?_ (Nat.le_refl _) | with_reducible apply pw_below_drewN | with_reducible apply below_drew1)) _).then_ hk (fun _ h_ => .inl h_))
  have HZ14 : Aside0 (w13.heap.size ≤ w14.heap.size) := ⟨HW.out.1⟩
  replace HB := Aside0.mk hb
  replace F1 := Aside0.mk (Kd.R_kept F1.out HW.out (fun k_ h1 h2 => by have z1_ := HZ1.out; have z2_ := HZ2.out; have z3_ := HZ3.out; have z4_ := HZ4.out; have z5_ := HZ5.out; have z6_ := HZ6.out; have z7_ := HZ7.out; have z8_ := HZ8.out; have z9_ := HZ9.out; have z10_ := HZ10.out; have z11_ := HZ11.out; have z12_ := HZ12.out; have z13_ := HZ13.out; have zg0_ := HG_BK_aA.out; have zg1_ := HG_BK_aB.out; have zg2_ := HG_BK_x1.out; have zg3_ := HG_BK_x2.out; have zl0_ := HLO1.out; have zl1_ := HLO2.out; have zl2_ := HLO3.out; have zl3_ := HLO4.out; have zl4_ := HLO5.out; have zl5_ := HLO6.out; have zl6_ := HLO7.out; have zl7_ := HLO8.out; have zl8_ := HLO9.out; have zl9_ := HLO10.out; omega))
  replace F4 := Aside0.mk (Kd.S_kept F4.out HW.out (fun k_ h1 h2 => by have z1_ := HZ1.out; have z2_ := HZ2.out; have z3_ := HZ3.out; have z4_ := HZ4.out; have z5_ := HZ5.out; have z6_ := HZ6.out; have z7_ := HZ7.out; have z8_ := HZ8.out; have z9_ := HZ9.out; have z10_ := HZ10.out; have z11_ := HZ11.out; have z12_ := HZ12.out; have z13_ := HZ13.out; have zg0_ := HG_BK_aA.out; have zg1_ := HG_BK_aB.out; have zg2_ := HG_BK_x1.out; have zg3_ := HG_BK_x2.out; have zl0_ := HLO1.out; have zl1_ := HLO2.out; have zl2_ := HLO3.out; have zl3_ := HLO4.out; have zl4_ := HLO5.out; have zl5_ := HLO6.out; have zl6_ := HLO7.out; have zl7_ := HLO8.out; have zl8_ := HLO9.out; have zl9_ := HLO10.out; omega))
  replace F5 := Aside0.mk (Kd.R_kept F5.out HW.out (fun k_ h1 h2 => by have z1_ := HZ1.out; have z2_ := HZ2.out; have z3_ := HZ3.out; have z4_ := HZ4.out; have z5_ := HZ5.out; have z6_ := HZ6.out; have z7_ := HZ7.out; have z8_ := HZ8.out; have z9_ := HZ9.out; have z10_ := HZ10.out; have z11_ := HZ11.out; have z12_ := HZ12.out; have z13_ := HZ13.out; have zg0_ := HG_BK_aA.out; have zg1_ := HG_BK_aB.out; have zg2_ := HG_BK_x1.out; have zg3_ := HG_BK_x2.out; have zl0_ := HLO1.out; have zl1_ := HLO2.out; have zl2_ := HLO3.out; have zl3_ := HLO4.out; have zl4_ := HLO5.out; have zl5_ := HLO6.out; have zl6_ := HLO7.out; have zl7_ := HLO8.out; have zl8_ := HLO9.out; have zl9_ := HLO10.out; omega))
  replace F6 := Aside0.mk (Kd.R_kept F6.out HW.out (fun k_ h1 h2 => by have z1_ := HZ1.out; have z2_ := HZ2.out; have z3_ := HZ3.out; have z4_ := HZ4.out; have z5_ := HZ5.out; have z6_ := HZ6.out; have z7_ := HZ7.out; have z8_ := HZ8.out; have z9_ := HZ9.out; have z10_ := HZ10.out; have z11_ := HZ11.out; have z12_ := HZ12.out; have z13_ := HZ13.out; have zg0_ := HG_BK_aA.out; have zg1_ := HG_BK_aB.out; have zg2_ := HG_BK_x1.out; have zg3_ := HG_BK_x2.out; have zl0_ := HLO1.out; have zl1_ := HLO2.out; have zl2_ := HLO3.out; have zl3_ := HLO4.out; have zl4_ := HLO5.out; have zl5_ := HLO6.out; have zl6_ := HLO7.out; have zl7_ := HLO8.out; have zl8_ := HLO9.out; have zl9_ := HLO10.out; omega))
  replace BK_aA := Aside0.mk (blk_kept BK_aA.out HW.out (fun h2 => by have z1_ := HZ1.out; have z2_ := HZ2.out; have z3_ := HZ3.out; have z4_ := HZ4.out; have z5_ := HZ5.out; have z6_ := HZ6.out; have z7_ := HZ7.out; have z8_ := HZ8.out; have z9_ := HZ9.out; have z10_ := HZ10.out; have z11_ := HZ11.out; have z12_ := HZ12.out; have z13_ := HZ13.out; have zg0_ := HG_BK_aA.out; have zg1_ := HG_BK_aB.out; have zg2_ := HG_BK_x1.out; have zg3_ := HG_BK_x2.out; have zl0_ := HLO1.out; have zl1_ := HLO2.out; have zl2_ := HLO3.out; have zl3_ := HLO4.out; have zl4_ := HLO5.out; have zl5_ := HLO6.out; have zl6_ := HLO7.out; have zl7_ := HLO8.out; have zl8_ := HLO9.out; have zl9_ := HLO10.out; omega))
  replace BK_aB := Aside0.mk (blk_kept BK_aB.out HW.out (fun h2 => by have z1_ := HZ1.out; have z2_ := HZ2.out; have z3_ := HZ3.out; have z4_ := HZ4.out; have z5_ := HZ5.out; have z6_ := HZ6.out; have z7_ := HZ7.out; have z8_ := HZ8.out; have z9_ := HZ9.out; have z10_ := HZ10.out; have z11_ := HZ11.out; have z12_ := HZ12.out; have z13_ := HZ13.out; have zg0_ := HG_BK_aA.out; have zg1_ := HG_BK_aB.out; have zg2_ := HG_BK_x1.out; have zg3_ := HG_BK_x2.out; have zl0_ := HLO1.out; have zl1_ := HLO2.out; have zl2_ := HLO3.out; have zl3_ := HLO4.out; have zl4_ := HLO5.out; have zl5_ := HLO6.out; have zl6_ := HLO7.out; have zl7_ := HLO8.out; have zl8_ := HLO9.out; have zl9_ := HLO10.out; omega))
  replace BK_x1 := Aside0.mk (blk_kept BK_x1.out HW.out (fun h2 => by have z1_ := HZ1.out; have z2_ := HZ2.out; have z3_ := HZ3.out; have z4_ := HZ4.out; have z5_ := HZ5.out; have z6_ := HZ6.out; have z7_ := HZ7.out; have z8_ := HZ8.out; have z9_ := HZ9.out; have z10_ := HZ10.out; have z11_ := HZ11.out; have z12_ := HZ12.out; have z13_ := HZ13.out; have zg0_ := HG_BK_aA.out; have zg1_ := HG_BK_aB.out; have zg2_ := HG_BK_x1.out; have zg3_ := HG_BK_x2.out; have zl0_ := HLO1.out; have zl1_ := HLO2.out; have zl2_ := HLO3.out; have zl3_ := HLO4.out; have zl4_ := HLO5.out; have zl5_ := HLO6.out; have zl6_ := HLO7.out; have zl7_ := HLO8.out; have zl8_ := HLO9.out; have zl9_ := HLO10.out; omega))
  replace BK_x2 := Aside0.mk (blk_kept BK_x2.out HW.out (fun h2 => by have z1_ := HZ1.out; have z2_ := HZ2.out; have z3_ := HZ3.out; have z4_ := HZ4.out; have z5_ := HZ5.out; have z6_ := HZ6.out; have z7_ := HZ7.out; have z8_ := HZ8.out; have z9_ := HZ9.out; have z10_ := HZ10.out; have z11_ := HZ11.out; have z12_ := HZ12.out; have z13_ := HZ13.out; have zg0_ := HG_BK_aA.out; have zg1_ := HG_BK_aB.out; have zg2_ := HG_BK_x1.out; have zg3_ := HG_BK_x2.out; have zl0_ := HLO1.out; have zl1_ := HLO2.out; have zl2_ := HLO3.out; have zl3_ := HLO4.out; have zl4_ := HLO5.out; have zl5_ := HLO6.out; have zl6_ := HLO7.out; have zl7_ := HLO8.out; have zl8_ := HLO9.out; have zl9_ := HLO10.out; omega))
  replace F2 := Aside0.mk hf_F2
  have HQ := Aside0.mk (Kd.S_reads' F2.out).1
  rw [HQ.out] at F2
  rw [HQ.out] at BK_x1
  clear HQ
  replace F3 := Aside0.mk (Own.R_ok hf_F3 F3.out.1)
  have HQ := Aside0.mk (Kd.R_reads' F3.out).1
  rw [HQ.out] at F3
  rw [HQ.out] at BK_x1
  clear HQ
  clear hb hk HW hf_F2 hf_F3
  have czBK_aA_0 : w14.cell? ⟨w.heap.size, 0, none⟩ = some (.int .i64 a1_0) := (blk_cell BK_aA.out 0).trans rfl
  have czBK_aA_1 : w14.cell? ⟨w.heap.size, 1, none⟩ = some (.slice A1_1 l1_1.length c1_1) := (blk_cell BK_aA.out 1).trans rfl
  have czBK_aA_2 : w14.cell? ⟨w.heap.size, 2, none⟩ = some (.slice A1_2 l1_2.length c1_2) := (blk_cell BK_aA.out 2).trans rfl
  have czBK_aB_0 : w14.cell? ⟨(w.heap.size + 1), 0, none⟩ = some (.int .i64 a2_0) := (blk_cell BK_aB.out 0).trans rfl
  have czBK_aB_1 : w14.cell? ⟨(w.heap.size + 1), 1, none⟩ = some (.slice A2_1 l2_1.length c2_1) := (blk_cell BK_aB.out 1).trans rfl
  have czBK_aB_2 : w14.cell? ⟨(w.heap.size + 1), 2, none⟩ = some (.slice A2_2 l2_2.length c2_2) := (blk_cell BK_aB.out 2).trans rfl
  have czBK_x1_0 : w14.cell? ⟨w5.heap.size, 0, none⟩ = some (.int .i64 a1_0) := (blk_cell BK_x1.out 0).trans rfl
  have czBK_x1_1 : w14.cell? ⟨w5.heap.size, 1, none⟩ = some (.slice A2_ nx1_1.length c2_) := (blk_cell BK_x1.out 1).trans rfl
  have czBK_x1_2 : w14.cell? ⟨w5.heap.size, 2, none⟩ = some (.slice A3_ nx1_2.length c3_) := (blk_cell BK_x1.out 2).trans rfl
  have czBK_x2_0 : w14.cell? ⟨w6.heap.size, 0, none⟩ = some (.int .i64 a2_0) := (blk_cell BK_x2.out 0).trans rfl
  have czBK_x2_1 : w14.cell? ⟨w6.heap.size, 1, none⟩ = some (.slice A4_ l2_1.length c4_) := (blk_cell BK_x2.out 1).trans rfl
  have czBK_x2_2 : w14.cell? ⟨w6.heap.size, 2, none⟩ = some (.slice A5_ l2_2.length c5_) := (blk_cell BK_x2.out 2).trans rfl
  go_wp2_with fail
  refine (laws_markAutomaton.calls k _ _ _ _ _ _ _ _ _ _ _ w _ (below_step HB.out (by repeat (first | with_reducible exact Below.refl _ _ | with_reducible apply below_alloc | with_reducible refine below_set ?_ (Nat.le_refl _) | with_reducible apply pw_below_drewN | with_reducible apply below_drew1))) (Kd.S_below F4.out (by repeat (first | with_reducible exact Below.refl _ _ | with_reducible apply below_alloc | with_reducible refine below_set ?_ (Nat.le_refl _) | with_reducible apply pw_below_drewN | with_reducible apply below_drew1))) (Kd.R_below F5.out (by repeat (first | with_reducible exact Below.refl _ _ | with_reducible apply below_alloc | with_reducible refine below_set ?_ (Nat.le_refl _) | with_reducible apply pw_below_drewN | with_reducible apply below_drew1))) (fun k_ h1 h2 => h1.1 h2.1) He_mark_x2.out).mono ?_
  rintro e w15 ⟨rfl, hf_F4, hf_F5, hb, hk⟩
  clear czBK_aA_0 czBK_aA_1 czBK_aA_2 czBK_aB_0 czBK_aB_1 czBK_aB_2 czBK_x1_0 czBK_x1_1 czBK_x1_2 czBK_x2_0 czBK_x2_1 czBK_x2_2
  have HW := Aside0.mk ((Kept.of_below (w := w14) (by repeat (first | with_reducible exact Below.refl _ _ | with_reducible apply below_alloc | with_reducible refine below_set ?_ (Nat.le_refl _) | with_reducible apply pw_below_drewN | with_reducible apply below_drew1)) _).then_ hk (fun _ h_ => .inl h_))
  have HZ15 : Aside0 (w14.heap.size ≤ w15.heap.size) := ⟨HW.out.1⟩
  replace HB := Aside0.mk hb
  replace F1 := Aside0.mk (Kd.R_kept F1.out HW.out (fun k_ h1 h2 => by have z1_ := HZ1.out; have z2_ := HZ2.out; have z3_ := HZ3.out; have z4_ := HZ4.out; have z5_ := HZ5.out; have z6_ := HZ6.out; have z7_ := HZ7.out; have z8_ := HZ8.out; have z9_ := HZ9.out; have z10_ := HZ10.out; have z11_ := HZ11.out; have z12_ := HZ12.out; have z13_ := HZ13.out; have z14_ := HZ14.out; have zg0_ := HG_BK_aA.out; have zg1_ := HG_BK_aB.out; have zg2_ := HG_BK_x1.out; have zg3_ := HG_BK_x2.out; have zl0_ := HLO1.out; have zl1_ := HLO2.out; have zl2_ := HLO3.out; have zl3_ := HLO4.out; have zl4_ := HLO5.out; have zl5_ := HLO6.out; have zl6_ := HLO7.out; have zl7_ := HLO8.out; have zl8_ := HLO9.out; have zl9_ := HLO10.out; omega))
  replace F2 := Aside0.mk (Kd.S_kept F2.out HW.out (fun k_ h1 h2 => by have z1_ := HZ1.out; have z2_ := HZ2.out; have z3_ := HZ3.out; have z4_ := HZ4.out; have z5_ := HZ5.out; have z6_ := HZ6.out; have z7_ := HZ7.out; have z8_ := HZ8.out; have z9_ := HZ9.out; have z10_ := HZ10.out; have z11_ := HZ11.out; have z12_ := HZ12.out; have z13_ := HZ13.out; have z14_ := HZ14.out; have zg0_ := HG_BK_aA.out; have zg1_ := HG_BK_aB.out; have zg2_ := HG_BK_x1.out; have zg3_ := HG_BK_x2.out; have zl0_ := HLO1.out; have zl1_ := HLO2.out; have zl2_ := HLO3.out; have zl3_ := HLO4.out; have zl4_ := HLO5.out; have zl5_ := HLO6.out; have zl6_ := HLO7.out; have zl7_ := HLO8.out; have zl8_ := HLO9.out; have zl9_ := HLO10.out; omega))
  replace F3 := Aside0.mk (Kd.R_kept F3.out HW.out (fun k_ h1 h2 => by have z1_ := HZ1.out; have z2_ := HZ2.out; have z3_ := HZ3.out; have z4_ := HZ4.out; have z5_ := HZ5.out; have z6_ := HZ6.out; have z7_ := HZ7.out; have z8_ := HZ8.out; have z9_ := HZ9.out; have z10_ := HZ10.out; have z11_ := HZ11.out; have z12_ := HZ12.out; have z13_ := HZ13.out; have z14_ := HZ14.out; have zg0_ := HG_BK_aA.out; have zg1_ := HG_BK_aB.out; have zg2_ := HG_BK_x1.out; have zg3_ := HG_BK_x2.out; have zl0_ := HLO1.out; have zl1_ := HLO2.out; have zl2_ := HLO3.out; have zl3_ := HLO4.out; have zl4_ := HLO5.out; have zl5_ := HLO6.out; have zl6_ := HLO7.out; have zl7_ := HLO8.out; have zl8_ := HLO9.out; have zl9_ := HLO10.out; omega))
  replace F6 := Aside0.mk (Kd.R_kept F6.out HW.out (fun k_ h1 h2 => by have z1_ := HZ1.out; have z2_ := HZ2.out; have z3_ := HZ3.out; have z4_ := HZ4.out; have z5_ := HZ5.out; have z6_ := HZ6.out; have z7_ := HZ7.out; have z8_ := HZ8.out; have z9_ := HZ9.out; have z10_ := HZ10.out; have z11_ := HZ11.out; have z12_ := HZ12.out; have z13_ := HZ13.out; have z14_ := HZ14.out; have zg0_ := HG_BK_aA.out; have zg1_ := HG_BK_aB.out; have zg2_ := HG_BK_x1.out; have zg3_ := HG_BK_x2.out; have zl0_ := HLO1.out; have zl1_ := HLO2.out; have zl2_ := HLO3.out; have zl3_ := HLO4.out; have zl4_ := HLO5.out; have zl5_ := HLO6.out; have zl6_ := HLO7.out; have zl7_ := HLO8.out; have zl8_ := HLO9.out; have zl9_ := HLO10.out; omega))
  replace BK_aA := Aside0.mk (blk_kept BK_aA.out HW.out (fun h2 => by have z1_ := HZ1.out; have z2_ := HZ2.out; have z3_ := HZ3.out; have z4_ := HZ4.out; have z5_ := HZ5.out; have z6_ := HZ6.out; have z7_ := HZ7.out; have z8_ := HZ8.out; have z9_ := HZ9.out; have z10_ := HZ10.out; have z11_ := HZ11.out; have z12_ := HZ12.out; have z13_ := HZ13.out; have z14_ := HZ14.out; have zg0_ := HG_BK_aA.out; have zg1_ := HG_BK_aB.out; have zg2_ := HG_BK_x1.out; have zg3_ := HG_BK_x2.out; have zl0_ := HLO1.out; have zl1_ := HLO2.out; have zl2_ := HLO3.out; have zl3_ := HLO4.out; have zl4_ := HLO5.out; have zl5_ := HLO6.out; have zl6_ := HLO7.out; have zl7_ := HLO8.out; have zl8_ := HLO9.out; have zl9_ := HLO10.out; omega))
  replace BK_aB := Aside0.mk (blk_kept BK_aB.out HW.out (fun h2 => by have z1_ := HZ1.out; have z2_ := HZ2.out; have z3_ := HZ3.out; have z4_ := HZ4.out; have z5_ := HZ5.out; have z6_ := HZ6.out; have z7_ := HZ7.out; have z8_ := HZ8.out; have z9_ := HZ9.out; have z10_ := HZ10.out; have z11_ := HZ11.out; have z12_ := HZ12.out; have z13_ := HZ13.out; have z14_ := HZ14.out; have zg0_ := HG_BK_aA.out; have zg1_ := HG_BK_aB.out; have zg2_ := HG_BK_x1.out; have zg3_ := HG_BK_x2.out; have zl0_ := HLO1.out; have zl1_ := HLO2.out; have zl2_ := HLO3.out; have zl3_ := HLO4.out; have zl4_ := HLO5.out; have zl5_ := HLO6.out; have zl6_ := HLO7.out; have zl7_ := HLO8.out; have zl8_ := HLO9.out; have zl9_ := HLO10.out; omega))
  replace BK_x1 := Aside0.mk (blk_kept BK_x1.out HW.out (fun h2 => by have z1_ := HZ1.out; have z2_ := HZ2.out; have z3_ := HZ3.out; have z4_ := HZ4.out; have z5_ := HZ5.out; have z6_ := HZ6.out; have z7_ := HZ7.out; have z8_ := HZ8.out; have z9_ := HZ9.out; have z10_ := HZ10.out; have z11_ := HZ11.out; have z12_ := HZ12.out; have z13_ := HZ13.out; have z14_ := HZ14.out; have zg0_ := HG_BK_aA.out; have zg1_ := HG_BK_aB.out; have zg2_ := HG_BK_x1.out; have zg3_ := HG_BK_x2.out; have zl0_ := HLO1.out; have zl1_ := HLO2.out; have zl2_ := HLO3.out; have zl3_ := HLO4.out; have zl4_ := HLO5.out; have zl5_ := HLO6.out; have zl6_ := HLO7.out; have zl7_ := HLO8.out; have zl8_ := HLO9.out; have zl9_ := HLO10.out; omega))
  replace BK_x2 := Aside0.mk (blk_kept BK_x2.out HW.out (fun h2 => by have z1_ := HZ1.out; have z2_ := HZ2.out; have z3_ := HZ3.out; have z4_ := HZ4.out; have z5_ := HZ5.out; have z6_ := HZ6.out; have z7_ := HZ7.out; have z8_ := HZ8.out; have z9_ := HZ9.out; have z10_ := HZ10.out; have z11_ := HZ11.out; have z12_ := HZ12.out; have z13_ := HZ13.out; have z14_ := HZ14.out; have zg0_ := HG_BK_aA.out; have zg1_ := HG_BK_aB.out; have zg2_ := HG_BK_x1.out; have zg3_ := HG_BK_x2.out; have zl0_ := HLO1.out; have zl1_ := HLO2.out; have zl2_ := HLO3.out; have zl3_ := HLO4.out; have zl4_ := HLO5.out; have zl5_ := HLO6.out; have zl6_ := HLO7.out; have zl7_ := HLO8.out; have zl8_ := HLO9.out; have zl9_ := HLO10.out; omega))
  replace F4 := Aside0.mk hf_F4
  have HQ := Aside0.mk (Kd.S_reads' F4.out).1
  rw [HQ.out] at F4
  rw [HQ.out] at BK_x2
  clear HQ
  replace F5 := Aside0.mk (Own.R_ok hf_F5 F5.out.1)
  have HQ := Aside0.mk (Kd.R_reads' F5.out).1
  rw [HQ.out] at F5
  rw [HQ.out] at BK_x2
  clear HQ
  clear hb hk HW hf_F4 hf_F5
  have czBK_aA_0 : w15.cell? ⟨w.heap.size, 0, none⟩ = some (.int .i64 a1_0) := (blk_cell BK_aA.out 0).trans rfl
  have czBK_aA_1 : w15.cell? ⟨w.heap.size, 1, none⟩ = some (.slice A1_1 l1_1.length c1_1) := (blk_cell BK_aA.out 1).trans rfl
  have czBK_aA_2 : w15.cell? ⟨w.heap.size, 2, none⟩ = some (.slice A1_2 l1_2.length c1_2) := (blk_cell BK_aA.out 2).trans rfl
  have czBK_aB_0 : w15.cell? ⟨(w.heap.size + 1), 0, none⟩ = some (.int .i64 a2_0) := (blk_cell BK_aB.out 0).trans rfl
  have czBK_aB_1 : w15.cell? ⟨(w.heap.size + 1), 1, none⟩ = some (.slice A2_1 l2_1.length c2_1) := (blk_cell BK_aB.out 1).trans rfl
  have czBK_aB_2 : w15.cell? ⟨(w.heap.size + 1), 2, none⟩ = some (.slice A2_2 l2_2.length c2_2) := (blk_cell BK_aB.out 2).trans rfl
  have czBK_x1_0 : w15.cell? ⟨w5.heap.size, 0, none⟩ = some (.int .i64 a1_0) := (blk_cell BK_x1.out 0).trans rfl
  have czBK_x1_1 : w15.cell? ⟨w5.heap.size, 1, none⟩ = some (.slice A2_ nx1_1.length c2_) := (blk_cell BK_x1.out 1).trans rfl
  have czBK_x1_2 : w15.cell? ⟨w5.heap.size, 2, none⟩ = some (.slice A3_ nx1_2.length c3_) := (blk_cell BK_x1.out 2).trans rfl
  have czBK_x2_0 : w15.cell? ⟨w6.heap.size, 0, none⟩ = some (.int .i64 a2_0) := (blk_cell BK_x2.out 0).trans rfl
  have czBK_x2_1 : w15.cell? ⟨w6.heap.size, 1, none⟩ = some (.slice A4_ nx2_1.length c4_) := (blk_cell BK_x2.out 1).trans rfl
  have czBK_x2_2 : w15.cell? ⟨w6.heap.size, 2, none⟩ = some (.slice A5_ nx2_2.length c5_) := (blk_cell BK_x2.out 2).trans rfl
  go_wp2_with fail
  refine (laws_eqIntS.calls k _ _ _ _ _ _ _ _ (Kd.C_below (Kd.R_reads' F6.out).2.2 (by repeat (first | with_reducible exact Below.refl _ _ | with_reducible apply below_alloc | with_reducible refine below_set ?_ (Nat.le_refl _) | with_reducible apply pw_below_drewN | with_reducible apply below_drew1))) (Kd.R_reads' F6.out).2.1 (Kd.C_below (Kd.R_reads' F1.out).2.2 (by repeat (first | with_reducible exact Below.refl _ _ | with_reducible apply below_alloc | with_reducible refine below_set ?_ (Nat.le_refl _) | with_reducible apply pw_below_drewN | with_reducible apply below_drew1))) (Kd.R_reads' F1.out).2.1 He_eq_w0.out).mono ?_
  rintro e _ ⟨rfl, ⟨nd592_, rfl⟩⟩
  go_wp2_with fail
  refine (laws_markIntS.calls k _ _ _ _ _ _ w _ (below_step HB.out (by repeat (first | with_reducible exact Below.refl _ _ | with_reducible apply below_alloc | with_reducible refine below_set ?_ (Nat.le_refl _) | with_reducible apply pw_below_drewN | with_reducible apply below_drew1))) (Kd.R_below F6.out (by repeat (first | with_reducible exact Below.refl _ _ | with_reducible apply below_alloc | with_reducible refine below_set ?_ (Nat.le_refl _) | with_reducible apply pw_below_drewN | with_reducible apply below_drew1))) He_mark_g0.out).mono ?_
  rintro e w16 ⟨rfl, hf_F6, hb, hk⟩
  clear czBK_aA_0 czBK_aA_1 czBK_aA_2 czBK_aB_0 czBK_aB_1 czBK_aB_2 czBK_x1_0 czBK_x1_1 czBK_x1_2 czBK_x2_0 czBK_x2_1 czBK_x2_2
  have HW := Aside0.mk ((Kept.of_below (w := w15) (by repeat (first | with_reducible exact Below.refl _ _ | with_reducible apply below_alloc | with_reducible refine below_set ?_ (Nat.le_refl _) | with_reducible apply pw_below_drewN | with_reducible apply below_drew1)) _).then_ hk (fun _ h_ => .inl h_))
  have HZ16 : Aside0 (w15.heap.size ≤ w16.heap.size) := ⟨HW.out.1⟩
  replace HB := Aside0.mk hb
  replace F1 := Aside0.mk (Kd.R_kept F1.out HW.out (fun k_ h1 h2 => by have z1_ := HZ1.out; have z2_ := HZ2.out; have z3_ := HZ3.out; have z4_ := HZ4.out; have z5_ := HZ5.out; have z6_ := HZ6.out; have z7_ := HZ7.out; have z8_ := HZ8.out; have z9_ := HZ9.out; have z10_ := HZ10.out; have z11_ := HZ11.out; have z12_ := HZ12.out; have z13_ := HZ13.out; have z14_ := HZ14.out; have z15_ := HZ15.out; have zg0_ := HG_BK_aA.out; have zg1_ := HG_BK_aB.out; have zg2_ := HG_BK_x1.out; have zg3_ := HG_BK_x2.out; have zl0_ := HLO1.out; have zl1_ := HLO2.out; have zl2_ := HLO3.out; have zl3_ := HLO4.out; have zl4_ := HLO5.out; have zl5_ := HLO6.out; have zl6_ := HLO7.out; have zl7_ := HLO8.out; have zl8_ := HLO9.out; have zl9_ := HLO10.out; omega))
  replace F2 := Aside0.mk (Kd.S_kept F2.out HW.out (fun k_ h1 h2 => by have z1_ := HZ1.out; have z2_ := HZ2.out; have z3_ := HZ3.out; have z4_ := HZ4.out; have z5_ := HZ5.out; have z6_ := HZ6.out; have z7_ := HZ7.out; have z8_ := HZ8.out; have z9_ := HZ9.out; have z10_ := HZ10.out; have z11_ := HZ11.out; have z12_ := HZ12.out; have z13_ := HZ13.out; have z14_ := HZ14.out; have z15_ := HZ15.out; have zg0_ := HG_BK_aA.out; have zg1_ := HG_BK_aB.out; have zg2_ := HG_BK_x1.out; have zg3_ := HG_BK_x2.out; have zl0_ := HLO1.out; have zl1_ := HLO2.out; have zl2_ := HLO3.out; have zl3_ := HLO4.out; have zl4_ := HLO5.out; have zl5_ := HLO6.out; have zl6_ := HLO7.out; have zl7_ := HLO8.out; have zl8_ := HLO9.out; have zl9_ := HLO10.out; omega))
  replace F3 := Aside0.mk (Kd.R_kept F3.out HW.out (fun k_ h1 h2 => by have z1_ := HZ1.out; have z2_ := HZ2.out; have z3_ := HZ3.out; have z4_ := HZ4.out; have z5_ := HZ5.out; have z6_ := HZ6.out; have z7_ := HZ7.out; have z8_ := HZ8.out; have z9_ := HZ9.out; have z10_ := HZ10.out; have z11_ := HZ11.out; have z12_ := HZ12.out; have z13_ := HZ13.out; have z14_ := HZ14.out; have z15_ := HZ15.out; have zg0_ := HG_BK_aA.out; have zg1_ := HG_BK_aB.out; have zg2_ := HG_BK_x1.out; have zg3_ := HG_BK_x2.out; have zl0_ := HLO1.out; have zl1_ := HLO2.out; have zl2_ := HLO3.out; have zl3_ := HLO4.out; have zl4_ := HLO5.out; have zl5_ := HLO6.out; have zl6_ := HLO7.out; have zl7_ := HLO8.out; have zl8_ := HLO9.out; have zl9_ := HLO10.out; omega))
  replace F4 := Aside0.mk (Kd.S_kept F4.out HW.out (fun k_ h1 h2 => by have z1_ := HZ1.out; have z2_ := HZ2.out; have z3_ := HZ3.out; have z4_ := HZ4.out; have z5_ := HZ5.out; have z6_ := HZ6.out; have z7_ := HZ7.out; have z8_ := HZ8.out; have z9_ := HZ9.out; have z10_ := HZ10.out; have z11_ := HZ11.out; have z12_ := HZ12.out; have z13_ := HZ13.out; have z14_ := HZ14.out; have z15_ := HZ15.out; have zg0_ := HG_BK_aA.out; have zg1_ := HG_BK_aB.out; have zg2_ := HG_BK_x1.out; have zg3_ := HG_BK_x2.out; have zl0_ := HLO1.out; have zl1_ := HLO2.out; have zl2_ := HLO3.out; have zl3_ := HLO4.out; have zl4_ := HLO5.out; have zl5_ := HLO6.out; have zl6_ := HLO7.out; have zl7_ := HLO8.out; have zl8_ := HLO9.out; have zl9_ := HLO10.out; omega))
  replace F5 := Aside0.mk (Kd.R_kept F5.out HW.out (fun k_ h1 h2 => by have z1_ := HZ1.out; have z2_ := HZ2.out; have z3_ := HZ3.out; have z4_ := HZ4.out; have z5_ := HZ5.out; have z6_ := HZ6.out; have z7_ := HZ7.out; have z8_ := HZ8.out; have z9_ := HZ9.out; have z10_ := HZ10.out; have z11_ := HZ11.out; have z12_ := HZ12.out; have z13_ := HZ13.out; have z14_ := HZ14.out; have z15_ := HZ15.out; have zg0_ := HG_BK_aA.out; have zg1_ := HG_BK_aB.out; have zg2_ := HG_BK_x1.out; have zg3_ := HG_BK_x2.out; have zl0_ := HLO1.out; have zl1_ := HLO2.out; have zl2_ := HLO3.out; have zl3_ := HLO4.out; have zl4_ := HLO5.out; have zl5_ := HLO6.out; have zl6_ := HLO7.out; have zl7_ := HLO8.out; have zl8_ := HLO9.out; have zl9_ := HLO10.out; omega))
  replace BK_aA := Aside0.mk (blk_kept BK_aA.out HW.out (fun h2 => by have z1_ := HZ1.out; have z2_ := HZ2.out; have z3_ := HZ3.out; have z4_ := HZ4.out; have z5_ := HZ5.out; have z6_ := HZ6.out; have z7_ := HZ7.out; have z8_ := HZ8.out; have z9_ := HZ9.out; have z10_ := HZ10.out; have z11_ := HZ11.out; have z12_ := HZ12.out; have z13_ := HZ13.out; have z14_ := HZ14.out; have z15_ := HZ15.out; have zg0_ := HG_BK_aA.out; have zg1_ := HG_BK_aB.out; have zg2_ := HG_BK_x1.out; have zg3_ := HG_BK_x2.out; have zl0_ := HLO1.out; have zl1_ := HLO2.out; have zl2_ := HLO3.out; have zl3_ := HLO4.out; have zl4_ := HLO5.out; have zl5_ := HLO6.out; have zl6_ := HLO7.out; have zl7_ := HLO8.out; have zl8_ := HLO9.out; have zl9_ := HLO10.out; omega))
  replace BK_aB := Aside0.mk (blk_kept BK_aB.out HW.out (fun h2 => by have z1_ := HZ1.out; have z2_ := HZ2.out; have z3_ := HZ3.out; have z4_ := HZ4.out; have z5_ := HZ5.out; have z6_ := HZ6.out; have z7_ := HZ7.out; have z8_ := HZ8.out; have z9_ := HZ9.out; have z10_ := HZ10.out; have z11_ := HZ11.out; have z12_ := HZ12.out; have z13_ := HZ13.out; have z14_ := HZ14.out; have z15_ := HZ15.out; have zg0_ := HG_BK_aA.out; have zg1_ := HG_BK_aB.out; have zg2_ := HG_BK_x1.out; have zg3_ := HG_BK_x2.out; have zl0_ := HLO1.out; have zl1_ := HLO2.out; have zl2_ := HLO3.out; have zl3_ := HLO4.out; have zl4_ := HLO5.out; have zl5_ := HLO6.out; have zl6_ := HLO7.out; have zl7_ := HLO8.out; have zl8_ := HLO9.out; have zl9_ := HLO10.out; omega))
  replace BK_x1 := Aside0.mk (blk_kept BK_x1.out HW.out (fun h2 => by have z1_ := HZ1.out; have z2_ := HZ2.out; have z3_ := HZ3.out; have z4_ := HZ4.out; have z5_ := HZ5.out; have z6_ := HZ6.out; have z7_ := HZ7.out; have z8_ := HZ8.out; have z9_ := HZ9.out; have z10_ := HZ10.out; have z11_ := HZ11.out; have z12_ := HZ12.out; have z13_ := HZ13.out; have z14_ := HZ14.out; have z15_ := HZ15.out; have zg0_ := HG_BK_aA.out; have zg1_ := HG_BK_aB.out; have zg2_ := HG_BK_x1.out; have zg3_ := HG_BK_x2.out; have zl0_ := HLO1.out; have zl1_ := HLO2.out; have zl2_ := HLO3.out; have zl3_ := HLO4.out; have zl4_ := HLO5.out; have zl5_ := HLO6.out; have zl6_ := HLO7.out; have zl7_ := HLO8.out; have zl8_ := HLO9.out; have zl9_ := HLO10.out; omega))
  replace BK_x2 := Aside0.mk (blk_kept BK_x2.out HW.out (fun h2 => by have z1_ := HZ1.out; have z2_ := HZ2.out; have z3_ := HZ3.out; have z4_ := HZ4.out; have z5_ := HZ5.out; have z6_ := HZ6.out; have z7_ := HZ7.out; have z8_ := HZ8.out; have z9_ := HZ9.out; have z10_ := HZ10.out; have z11_ := HZ11.out; have z12_ := HZ12.out; have z13_ := HZ13.out; have z14_ := HZ14.out; have z15_ := HZ15.out; have zg0_ := HG_BK_aA.out; have zg1_ := HG_BK_aB.out; have zg2_ := HG_BK_x1.out; have zg3_ := HG_BK_x2.out; have zl0_ := HLO1.out; have zl1_ := HLO2.out; have zl2_ := HLO3.out; have zl3_ := HLO4.out; have zl4_ := HLO5.out; have zl5_ := HLO6.out; have zl6_ := HLO7.out; have zl7_ := HLO8.out; have zl8_ := HLO9.out; have zl9_ := HLO10.out; omega))
  replace F6 := Aside0.mk (Own.R_ok hf_F6 F6.out.1)
  have HQ := Aside0.mk (Kd.R_reads' F6.out).1
  rw [HQ.out] at F6
  (try rw [HQ.out])
  clear HQ
  clear hb hk HW hf_F6
  have czBK_aA_0 : w16.cell? ⟨w.heap.size, 0, none⟩ = some (.int .i64 a1_0) := (blk_cell BK_aA.out 0).trans rfl
  have czBK_aA_1 : w16.cell? ⟨w.heap.size, 1, none⟩ = some (.slice A1_1 l1_1.length c1_1) := (blk_cell BK_aA.out 1).trans rfl
  have czBK_aA_2 : w16.cell? ⟨w.heap.size, 2, none⟩ = some (.slice A1_2 l1_2.length c1_2) := (blk_cell BK_aA.out 2).trans rfl
  have czBK_aB_0 : w16.cell? ⟨(w.heap.size + 1), 0, none⟩ = some (.int .i64 a2_0) := (blk_cell BK_aB.out 0).trans rfl
  have czBK_aB_1 : w16.cell? ⟨(w.heap.size + 1), 1, none⟩ = some (.slice A2_1 l2_1.length c2_1) := (blk_cell BK_aB.out 1).trans rfl
  have czBK_aB_2 : w16.cell? ⟨(w.heap.size + 1), 2, none⟩ = some (.slice A2_2 l2_2.length c2_2) := (blk_cell BK_aB.out 2).trans rfl
  have czBK_x1_0 : w16.cell? ⟨w5.heap.size, 0, none⟩ = some (.int .i64 a1_0) := (blk_cell BK_x1.out 0).trans rfl
  have czBK_x1_1 : w16.cell? ⟨w5.heap.size, 1, none⟩ = some (.slice A2_ nx1_1.length c2_) := (blk_cell BK_x1.out 1).trans rfl
  have czBK_x1_2 : w16.cell? ⟨w5.heap.size, 2, none⟩ = some (.slice A3_ nx1_2.length c3_) := (blk_cell BK_x1.out 2).trans rfl
  have czBK_x2_0 : w16.cell? ⟨w6.heap.size, 0, none⟩ = some (.int .i64 a2_0) := (blk_cell BK_x2.out 0).trans rfl
  have czBK_x2_1 : w16.cell? ⟨w6.heap.size, 1, none⟩ = some (.slice A4_ nx2_1.length c4_) := (blk_cell BK_x2.out 1).trans rfl
  have czBK_x2_2 : w16.cell? ⟨w6.heap.size, 2, none⟩ = some (.slice A5_ nx2_2.length c5_) := (blk_cell BK_x2.out 2).trans rfl
  go_wp2_with fail
  refine (laws_heldIntS.calls k _ _ _ _ _ _ (Kd.C_below (Kd.R_reads' F6.out).2.2 (by repeat (first | with_reducible exact Below.refl _ _ | with_reducible apply below_alloc | with_reducible refine below_set ?_ (Nat.le_refl _) | with_reducible apply pw_below_drewN | with_reducible apply below_drew1))) (Kd.R_reads' F6.out).2.1 He_held_g0.out).mono ?_
  rintro e _ ⟨rfl, ⟨nh629_, rfl⟩⟩
  go_wp2_with fail
  clear czBK_aA_0 czBK_aA_1 czBK_aA_2 czBK_aB_0 czBK_aB_1 czBK_aB_2 czBK_x1_0 czBK_x1_1 czBK_x1_2 czBK_x2_0 czBK_x2_1 czBK_x2_2
  refine start_ (n := 11) (S := fun w' => w'.cell? ⟨w.heap.size, 0, none⟩ = some (.int .i64 a1_0) ∧ w'.cell? ⟨w.heap.size, 1, none⟩ = some (.slice A1_1 l1_1.length c1_1) ∧ w'.cell? ⟨w.heap.size, 2, none⟩ = some (.slice A1_2 l1_2.length c1_2) ∧ w'.cell? ⟨(w.heap.size + 1), 0, none⟩ = some (.int .i64 a2_0) ∧ w'.cell? ⟨(w.heap.size + 1), 1, none⟩ = some (.slice A2_1 l2_1.length c2_1) ∧ w'.cell? ⟨(w.heap.size + 1), 2, none⟩ = some (.slice A2_2 l2_2.length c2_2)) (ds := []) #[false, false, false, false, false, false, false, false, false, false, false] (by kernel_rfl) rfl rfl ⟨(blk_cell BK_aA.out 0).trans rfl, (blk_cell BK_aA.out 1).trans rfl, (blk_cell BK_aA.out 2).trans rfl, (blk_cell BK_aB.out 0).trans rfl, (blk_cell BK_aB.out 1).trans rfl, (blk_cell BK_aB.out 2).trans rfl⟩ (fun hHeld => ?_)
  refine Own.anew_ (wN := w16) (by repeat (first | with_reducible exact Below.refl _ _ | with_reducible apply below_alloc | with_reducible refine below_set ?_ (Nat.le_refl _) | with_reducible apply pw_below_drewN | with_reducible apply below_drew1)) hHeld (fun w17 hb hHeld => ?_)
  have HW := Aside0.mk hb
  have HZ17 : Aside0 (w16.heap.size ≤ w17.heap.size) := ⟨HW.out.size⟩
  replace HB := Aside0.mk (below_step HB.out HW.out)
  replace F1 := Aside0.mk (Kd.R_below F1.out HW.out)
  replace F2 := Aside0.mk (Kd.S_below F2.out HW.out)
  replace F3 := Aside0.mk (Kd.R_below F3.out HW.out)
  replace F4 := Aside0.mk (Kd.S_below F4.out HW.out)
  replace F5 := Aside0.mk (Kd.R_below F5.out HW.out)
  replace F6 := Aside0.mk (Kd.R_below F6.out HW.out)
  replace BK_aA := Aside0.mk (blk_below BK_aA.out HW.out)
  replace BK_aB := Aside0.mk (blk_below BK_aB.out HW.out)
  replace BK_x1 := Aside0.mk (blk_below BK_x1.out HW.out)
  replace BK_x2 := Aside0.mk (blk_below BK_x2.out HW.out)
  clear hb HW
  refine pure_ (i := 0) (N := some 99) (v := ?_) (a' := ?_) #[true, false, false, false, false, false, false, false, false, false, false] rfl rfl (by kernel_rfl) (fun _ _ _ h => h) (Or.inl ⟨by rfl, ?_⟩) ?_ ?_
  rotate_left
  · intro w'
    go_simp
    with_reducible rfl
  rotate_left
  · simp only [Act.put, List.setIfInBounds_toArray, List.set_cons_zero, List.set_cons_succ, i64_w, i32_w]
    rfl
  refine take_ (i := 1) (N := some 100) (v := ?_) (a' := ?_) #[true, true, false, false, false, false, false, false, false, false, false] rfl rfl (by kernel_rfl) (fun _ _ _ h => h) (Or.inl ⟨by rfl, ?_⟩) hHeld ?_ ?_
  rotate_left
  · rintro w' ⟨s0_, s1_, s2_, s3_, s4_, s5_⟩
    go_simp
    with_reducible rfl
  rotate_left
  · simp only [Act.put, List.setIfInBounds_toArray, List.set_cons_zero, List.set_cons_succ, i64_w, i32_w]
    rfl
  refine take_ (i := 3) (N := some 102) (v := ?_) (a' := ?_) #[true, true, false, true, false, false, false, false, false, false, false] rfl rfl (by kernel_rfl) (fun _ _ _ h => h) (Or.inl ⟨by rfl, ?_⟩) hHeld ?_ ?_
  rotate_left
  · rintro w' ⟨s0_, s1_, s2_, s3_, s4_, s5_⟩
    go_simp
    with_reducible rfl
  rotate_left
  · simp only [Act.put, List.setIfInBounds_toArray, List.set_cons_zero, List.set_cons_succ, i64_w, i32_w]
    rfl
  have HP_ : Aside0 (Below w17.heap.size w17 w17) := ⟨Below.refl _ _⟩
  refine one_ (i := 2) (N := some 101) #[true, true, true, true, false, false, false, false, false, false, false] rfl rfl (by kernel_rfl) (by decide) (fun K hK => ?_)
  refine goes_ Try.func10 (by kernel_rfl) rfl #[.agg #[.int .i64 a1_0, .slice A1_1 l1_1.length c1_1, .slice A1_2 l1_2.length c1_2]] (by rfl) rfl rfl (by (try simp only [List.map_toArray, List.map_cons, List.map_nil]); first | done | rfl | (simp only [List.length_drop, List.length_take]; rfl)) ?_
  with_reducible refine (laws_toAutomaton.calls k _ _ _ _ _ _ _ _ _ _ _ (Kd.C_below HR1_1.out (below_step HB.out HP_.out)) HC1_1.out (Kd.C_below HR1_2.out (below_step HB.out HP_.out)) HC1_2.out He_to_aA.out).mono ?_
  rintro e wq0 ⟨vq0a, vq0b, rfl, hf0a, hf0b, hb⟩
  refine ⟨_, rfl, ?_⟩
  have FQ0a := Aside0.mk (Kd.S_lower hf0a HP_.out.size)
  have FQ0b := Aside0.mk (Kd.R_lower hf0b HP_.out.size)
  replace HP_ := Aside0.mk (below_step HP_.out hb)
  clear hf0a hf0b hb
  obtain ⟨Aq0a_, cq0a_, eq0a_⟩ := Kd.S_slice FQ0a.out
  subst eq0a_
  obtain ⟨Aq0b_, cq0b_, eq0b_⟩ := Kd.R_slice FQ0b.out
  subst eq0b_
  refine hK.out _ _ ⟨(blk_cell (blk_below BK_aA.out HP_.out) 0).trans rfl, (blk_cell (blk_below BK_aA.out HP_.out) 1).trans rfl, (blk_cell (blk_below BK_aA.out HP_.out) 2).trans rfl, (blk_cell (blk_below BK_aB.out HP_.out) 0).trans rfl, (blk_cell (blk_below BK_aB.out HP_.out) 1).trans rfl, (blk_cell (blk_below BK_aB.out HP_.out) 2).trans rfl⟩ (fun hHeld => ?_)
  clear hK K
  refine norm_ (a' := ?_) ?_ ?_
  rotate_left
  · show Act.put _ (some 101) _ = _
    simp only [Act.put, List.setIfInBounds_toArray, List.set_cons_zero, List.set_cons_succ, i64_w, i32_w]
    rfl
  refine one_ (i := 4) (N := some 103) #[true, true, true, true, true, false, false, false, false, false, false] rfl rfl (by kernel_rfl) (by decide) (fun K hK => ?_)
  refine goes_ Try.func10 (by kernel_rfl) rfl #[.agg #[.int .i64 a2_0, .slice A2_1 l2_1.length c2_1, .slice A2_2 l2_2.length c2_2]] (by rfl) rfl rfl (by (try simp only [List.map_toArray, List.map_cons, List.map_nil]); first | done | rfl | (simp only [List.length_drop, List.length_take]; rfl)) ?_
  with_reducible refine (laws_toAutomaton.calls k _ _ _ _ _ _ _ _ _ _ _ (Kd.C_below HR2_1.out (below_step HB.out HP_.out)) HC2_1.out (Kd.C_below HR2_2.out (below_step HB.out HP_.out)) HC2_2.out He_to_aB.out).mono ?_
  rintro e wq1 ⟨vq1a, vq1b, rfl, hf1a, hf1b, hb⟩
  refine ⟨_, rfl, ?_⟩
  have FQ1a := Aside0.mk (Kd.S_lower hf1a HP_.out.size)
  have FQ1b := Aside0.mk (Kd.R_lower hf1b HP_.out.size)
  replace HP_ := Aside0.mk (below_step HP_.out hb)
  replace FQ0a := Aside0.mk (Kd.S_below FQ0a.out hb)
  replace FQ0b := Aside0.mk (Kd.R_below FQ0b.out hb)
  clear hf1a hf1b hb
  obtain ⟨Aq1a_, cq1a_, eq1a_⟩ := Kd.S_slice FQ1a.out
  subst eq1a_
  obtain ⟨Aq1b_, cq1b_, eq1b_⟩ := Kd.R_slice FQ1b.out
  subst eq1b_
  refine hK.out _ _ ⟨(blk_cell (blk_below BK_aA.out HP_.out) 0).trans rfl, (blk_cell (blk_below BK_aA.out HP_.out) 1).trans rfl, (blk_cell (blk_below BK_aA.out HP_.out) 2).trans rfl, (blk_cell (blk_below BK_aB.out HP_.out) 0).trans rfl, (blk_cell (blk_below BK_aB.out HP_.out) 1).trans rfl, (blk_cell (blk_below BK_aB.out HP_.out) 2).trans rfl⟩ (fun hHeld => ?_)
  clear hK K
  refine norm_ (a' := ?_) ?_ ?_
  rotate_left
  · show Act.put _ (some 103) _ = _
    simp only [Act.put, List.setIfInBounds_toArray, List.set_cons_zero, List.set_cons_succ, i64_w, i32_w]
    rfl
  refine one_ (i := 5) (N := some 104) #[true, true, true, true, true, true, false, false, false, false, false] rfl rfl (by kernel_rfl) (by decide) (fun K hK => ?_)
  refine goes_ Try.func22 (by kernel_rfl) rfl #[.int .i64 a0, .agg #[.int .i64 a1_0, .slice Aq0a_ l1_1.length cq0a_, .slice Aq0b_ l1_2.length cq0b_], .agg #[.int .i64 a2_0, .slice Aq1a_ l2_1.length cq1a_, .slice Aq1b_ l2_2.length cq1b_]] (by rfl) rfl rfl (by (try simp only [List.map_toArray, List.map_cons, List.map_nil]); first | done | rfl | (simp only [List.length_drop, List.length_take]; rfl)) ?_
  with_reducible refine (impl_FirstWord.calls k _ _ _ _ _ _ _ _ _ _ _ _ _ _ _ _ _ _ (Kd.C_below (Kd.S_reads' FQ0a.out).2.2 (Below.refl _ _)) (Kd.S_reads' FQ0a.out).2.1 (Kd.C_below (Kd.R_reads' FQ0b.out).2.2 (Below.refl _ _)) (Kd.R_reads' FQ0b.out).2.1 (Kd.C_below (Kd.S_reads' FQ1a.out).2.2 (Below.refl _ _)) (Kd.S_reads' FQ1a.out).2.1 (Kd.C_below (Kd.R_reads' FQ1b.out).2.2 (Below.refl _ _)) (Kd.R_reads' FQ1b.out).2.1 He_impl.out).mono ?_
  rintro e w18 ⟨vq2, rfl, hf2, hb⟩
  refine ⟨_, rfl, ?_⟩
  have FQ2 := Aside0.mk (Kd.R_lower hf2 HP_.out.size)
  replace HP_ := Aside0.mk (below_step HP_.out hb)
  replace FQ0a := Aside0.mk (Kd.S_below FQ0a.out hb)
  replace FQ0b := Aside0.mk (Kd.R_below FQ0b.out hb)
  replace FQ1a := Aside0.mk (Kd.S_below FQ1a.out hb)
  replace FQ1b := Aside0.mk (Kd.R_below FQ1b.out hb)
  clear hf2 hb
  obtain ⟨Aq2_, cq2_, eq2_⟩ := Kd.R_slice FQ2.out
  subst eq2_
  refine hK.out _ _ ⟨(blk_cell (blk_below BK_aA.out HP_.out) 0).trans rfl, (blk_cell (blk_below BK_aA.out HP_.out) 1).trans rfl, (blk_cell (blk_below BK_aA.out HP_.out) 2).trans rfl, (blk_cell (blk_below BK_aB.out HP_.out) 0).trans rfl, (blk_cell (blk_below BK_aB.out HP_.out) 1).trans rfl, (blk_cell (blk_below BK_aB.out HP_.out) 2).trans rfl⟩ (fun hHeld => ?_)
  clear hK K
  refine norm_ (a' := ?_) ?_ ?_
  rotate_left
  · show Act.put _ (some 104) _ = _
    simp only [Act.put, List.setIfInBounds_toArray, List.set_cons_zero, List.set_cons_succ, i64_w, i32_w]
    rfl
  refine pure_ (i := 6) (N := some 98) (v := ?_) (a' := ?_) #[true, true, true, true, true, true, true, false, false, false, false] rfl rfl (by kernel_rfl) (fun _ _ _ h => h) (Or.inl ⟨by rfl, ?_⟩) ?_ ?_
  rotate_left
  · intro w'
    go_simp
    with_reducible rfl
  rotate_left
  · simp only [Act.put, List.setIfInBounds_toArray, List.set_cons_zero, List.set_cons_succ, i64_w, i32_w]
    rfl
  refine pure_ (i := 7) (N := some 105) (v := ?_) (a' := ?_) #[true, true, true, true, true, true, true, true, false, false, false] rfl rfl (by kernel_rfl) (fun _ _ _ h => h) (Or.inl ⟨by rfl, ?_⟩) ?_ ?_
  rotate_left
  · intro w'
    go_simp
    with_reducible rfl
  rotate_left
  · simp only [Act.put, List.setIfInBounds_toArray, List.set_cons_zero, List.set_cons_succ, i64_w, i32_w]
    rfl
  refine pure_ (i := 8) (N := some 106) (v := ?_) (a' := ?_) #[true, true, true, true, true, true, true, true, true, false, false] rfl rfl (by kernel_rfl) (fun _ _ _ h => h) (Or.inl ⟨by rfl, ?_⟩) ?_ ?_
  rotate_left
  · intro w'
    go_simp
    with_reducible rfl
  rotate_left
  · simp only [Act.put, List.setIfInBounds_toArray, List.set_cons_zero, List.set_cons_succ, i64_w, i32_w]
    rfl
  refine pure_ (i := 9) (N := some 17) (v := ?_) (a' := ?_) #[true, true, true, true, true, true, true, true, true, true, false] rfl rfl (by kernel_rfl) (fun _ _ _ h => h) (Or.inl ⟨by rfl, ?_⟩) ?_ ?_
  rotate_left
  · intro w'
    go_simp
    with_reducible rfl
  rotate_left
  · simp only [Act.put, List.setIfInBounds_toArray, List.set_cons_zero, List.set_cons_succ, i64_w, i32_w]
    rfl
  refine pure_ (i := 10) (N := some 18) (v := ?_) (a' := ?_) #[true, true, true, true, true, true, true, true, true, true, true] rfl rfl (by kernel_rfl) (fun _ _ _ h => h) (Or.inl ⟨by rfl, ?_⟩) ?_ ?_
  rotate_left
  · intro w'
    go_simp
    with_reducible rfl
  rotate_left
  · simp only [Act.put, List.setIfInBounds_toArray, List.set_cons_zero, List.set_cons_succ, i64_w, i32_w]
    rfl
  have hf11 := FQ2.out
  have hb := HP_.out
  clear HP_
  have HN := Aside0.mk HB.out.size
  have HW := Aside0.mk (below_step (w := w17) (by repeat (first | with_reducible exact Below.refl _ _ | with_reducible apply below_alloc | with_reducible refine below_set ?_ (Nat.le_refl _) | with_reducible apply pw_below_drewN | with_reducible apply below_drew1)) hb)
  have HZ18 : Aside0 (w17.heap.size ≤ w18.heap.size) := ⟨HW.out.size⟩
  replace HB := Aside0.mk (below_step HB.out HW.out)
  replace F1 := Aside0.mk (Kd.R_below F1.out HW.out)
  replace F2 := Aside0.mk (Kd.S_below F2.out HW.out)
  replace F3 := Aside0.mk (Kd.R_below F3.out HW.out)
  replace F4 := Aside0.mk (Kd.S_below F4.out HW.out)
  replace F5 := Aside0.mk (Kd.R_below F5.out HW.out)
  replace F6 := Aside0.mk (Kd.R_below F6.out HW.out)
  replace BK_aA := Aside0.mk (blk_below BK_aA.out HW.out)
  replace BK_aB := Aside0.mk (blk_below BK_aB.out HW.out)
  replace BK_x1 := Aside0.mk (blk_below BK_x1.out HW.out)
  replace BK_x2 := Aside0.mk (blk_below BK_x2.out HW.out)
  obtain ⟨lo11_, F11, HLO11⟩ := Own.R_iv (wN := w17) rfl hf11 HN.out (by repeat (first | with_reducible exact Below.refl _ _ | with_reducible apply below_alloc | with_reducible refine below_set ?_ (Nat.le_refl _) | with_reducible apply pw_below_drewN | with_reducible apply below_drew1)) hb
  clear hf11
  clear hb HW HN hHeld
  refine done_ (by kernel_rfl) ?_
  have czBK_aA_0 : w18.cell? ⟨w.heap.size, 0, none⟩ = some (.int .i64 a1_0) := (blk_cell BK_aA.out 0).trans rfl
  have czBK_aA_1 : w18.cell? ⟨w.heap.size, 1, none⟩ = some (.slice A1_1 l1_1.length c1_1) := (blk_cell BK_aA.out 1).trans rfl
  have czBK_aA_2 : w18.cell? ⟨w.heap.size, 2, none⟩ = some (.slice A1_2 l1_2.length c1_2) := (blk_cell BK_aA.out 2).trans rfl
  have czBK_aB_0 : w18.cell? ⟨(w.heap.size + 1), 0, none⟩ = some (.int .i64 a2_0) := (blk_cell BK_aB.out 0).trans rfl
  have czBK_aB_1 : w18.cell? ⟨(w.heap.size + 1), 1, none⟩ = some (.slice A2_1 l2_1.length c2_1) := (blk_cell BK_aB.out 1).trans rfl
  have czBK_aB_2 : w18.cell? ⟨(w.heap.size + 1), 2, none⟩ = some (.slice A2_2 l2_2.length c2_2) := (blk_cell BK_aB.out 2).trans rfl
  have czBK_x1_0 : w18.cell? ⟨w5.heap.size, 0, none⟩ = some (.int .i64 a1_0) := (blk_cell BK_x1.out 0).trans rfl
  have czBK_x1_1 : w18.cell? ⟨w5.heap.size, 1, none⟩ = some (.slice A2_ nx1_1.length c2_) := (blk_cell BK_x1.out 1).trans rfl
  have czBK_x1_2 : w18.cell? ⟨w5.heap.size, 2, none⟩ = some (.slice A3_ nx1_2.length c3_) := (blk_cell BK_x1.out 2).trans rfl
  have czBK_x2_0 : w18.cell? ⟨w6.heap.size, 0, none⟩ = some (.int .i64 a2_0) := (blk_cell BK_x2.out 0).trans rfl
  have czBK_x2_1 : w18.cell? ⟨w6.heap.size, 1, none⟩ = some (.slice A4_ nx2_1.length c4_) := (blk_cell BK_x2.out 1).trans rfl
  have czBK_x2_2 : w18.cell? ⟨w6.heap.size, 2, none⟩ = some (.slice A5_ nx2_2.length c5_) := (blk_cell BK_x2.out 2).trans rfl
  go_wp2_with fail
  refine (laws_eqIntS.calls k _ _ _ _ _ _ _ _ (Kd.C_below (Kd.R_reads' F11.out).2.2 (by repeat (first | with_reducible exact Below.refl _ _ | with_reducible apply below_alloc | with_reducible refine below_set ?_ (Nat.le_refl _) | with_reducible apply pw_below_drewN | with_reducible apply below_drew1))) (Kd.R_reads' F11.out).2.1 (Kd.C_below (Kd.R_reads' F1.out).2.2 (by repeat (first | with_reducible exact Below.refl _ _ | with_reducible apply below_alloc | with_reducible refine below_set ?_ (Nat.le_refl _) | with_reducible apply pw_below_drewN | with_reducible apply below_drew1))) (Kd.R_reads' F1.out).2.1 He_eq_w0.out).mono ?_
  rintro e _ ⟨rfl, ⟨nd811_, rfl⟩⟩
  go_wp2_with fail
  refine (laws_heldIntS.calls k _ _ _ _ _ _ (Kd.C_below (Kd.R_reads' F6.out).2.2 (by repeat (first | with_reducible exact Below.refl _ _ | with_reducible apply below_alloc | with_reducible refine below_set ?_ (Nat.le_refl _) | with_reducible apply pw_below_drewN | with_reducible apply below_drew1))) (Kd.R_reads' F6.out).2.1 He_held_g0.out).mono ?_
  rintro e _ ⟨rfl, ⟨nh814_, rfl⟩⟩
  go_wp2_with fail
  go_ret
  exact ⟨rfl, below_step HB.out (by repeat (first | with_reducible exact Below.refl _ _ | with_reducible apply below_alloc | with_reducible refine below_set ?_ (Nat.le_refl _) | with_reducible apply pw_below_drewN | with_reducible apply below_drew1))⟩
end Go.Proofs.Ytadhbepoblllhaa.P
end

section
/- What marking and holding come to: the numbers m, m + 1, .. through all rows. -/
namespace Go.Proofs.Ytadhbepoblllhaa.A
open Go.RowKit Go.Proofs.YtadhbepoblllhaaW.PrintWords Go.Proofs.YtadhbepoblllhaaW.PrintLast Go.Proofs.YtadhbepoblllhaaW.PrintMore Go.Proofs.Ytadhbepoblllhaa.P Go.Proofs.Ytadhbepoblllhaa.T
set_option linter.unusedVariables false
set_option linter.unusedSimpArgs false

def sumLen : List (List Int) → Nat
  | [] => 0
  | x :: l => x.length + sumLen l
theorem sumLen_le (b : Nat) : ∀ l : List (List Int), (∀ x ∈ l, x.length ≤ b) → sumLen l ≤ l.length * b := by
  intro l
  induction l with
  | nil => intro _; simp [sumLen]
  | cons x l ih =>
    intro h
    have h1 := h x List.mem_cons_self
    have h2 := ih (fun y hy => h y (List.mem_cons_of_mem _ hy))
    simp only [sumLen, List.length_cons, Nat.succ_mul]
    omega
def iotaRows : Int → List (List Int) → List (List Int)
  | _, [] => []
  | m, x :: l => iota m x.length :: iotaRows (m + (x.length : Int)) l
theorem iotaRows_length : ∀ (l : List (List Int)) (m : Int), (iotaRows m l).length = l.length := by
  intro l
  induction l with
  | nil => intro m; rfl
  | cons x l ih => intro m; simp [iotaRows, ih]
theorem rdr_mid (pre : List (List Int)) (y : List Int) (suf : List (List Int)) : rd_L1 (pre ++ y :: suf) (pre.length : Int) = y := by simp [rd_L1]
theorem markSS : ∀ (l : List (List Int)) (m : Int), (∀ x ∈ l, x.length ≤ maxLen) → 0 ≤ m → m + (sumLen l : Int) ≤ 9223372036854775807 →
    Ev (fun k => laws_markIntSS.f k l m) (m + (sumLen l : Int), iotaRows m l) := by
  intro l
  induction l with
  | nil => intro m _ _ _; exact ev_const (by simp [laws_markIntSS.f, sumLen, iotaRows])
  | cons x l ih =>
    intro m hr h0 h1
    simp only [sumLen, Int.natCast_add] at h1
    have hx := markInts x m (hr x List.mem_cons_self) h0 (by omega)
    have hl := ih (m + (x.length : Int)) (fun y hy => hr y (List.mem_cons_of_mem _ hy)) (by omega) (by omega)
    unfold laws_markIntSS.f
    refine ev_bind hx (ev_bind hl (ev_const ?_))
    simp only [sumLen, iotaRows, Int.natCast_add, Option.some.injEq, Prod.mk.injEq, and_true]
    omega
theorem markAu (L : Int) (N : List (List Int)) (F : List Int) (hr : ∀ x ∈ N, x.length ≤ maxLen) (hF : F.length ≤ maxLen) (h1 : (sumLen N : Int) + F.length ≤ 9000000000000000000) :
    Ev (fun k => laws_markAutomaton.f k L N F 1) (1 + (sumLen N : Int) + F.length, iotaRows 1 N, iota (1 + (sumLen N : Int)) F.length) := by
  unfold laws_markAutomaton.f
  exact ev_bind (markSS N 1 hr (by omega) (by omega)) (ev_bind (markInts F _ hF (by omega) (by omega)) (ev_const rfl))
theorem markAuM (L : Int) (N : List (List Int)) (F : List Int) (m : Int) (h0 : 0 ≤ m) (hr : ∀ x ∈ N, x.length ≤ maxLen) (hF : F.length ≤ maxLen) (h1 : m + (sumLen N : Int) + F.length ≤ 9000000000000000000) :
    Ev (fun k => laws_markAutomaton.f k L N F m) (m + (sumLen N : Int) + F.length, iotaRows m N, iota (m + (sumLen N : Int)) F.length) := by
  unfold laws_markAutomaton.f
  exact ev_bind (markSS N m hr h0 (by omega)) (ev_bind (markInts F _ hF (by omega) (by omega)) (ev_const rfl))
theorem heldSS_loop : ∀ (suf : List (List Int)) (pre : List (List Int)) (m : Int), (pre ++ iotaRows m suf).length ≤ maxLen → (∀ x ∈ suf, x.length ≤ maxLen) → 0 ≤ m → m + (sumLen suf : Int) ≤ 9223372036854775807 →
    Ev (fun k => laws_heldIntSS.l0 k (pre ++ iotaRows m suf) m (pre.length : Int)) (m + (sumLen suf : Int)) := by
  intro suf
  induction suf with
  | nil =>
    intro pre m hm _ _ _
    exact Ev.step (fun k => laws_heldIntSS.l0.eq_2 ..) (ev_neg (not_lt_end _) (ev_const (by simp [sumLen])))
  | cons y suf ih =>
    intro pre m hm hr h0 h1
    simp only [sumLen, Int.natCast_add] at h1
    simp only [iotaRows] at hm ⊢
    refine Ev.step (fun k => laws_heldIntSS.l0.eq_2 ..) (ev_pos (lt_mid _ _ _) (ev_pos (by omega) ?_))
    rw [rdr_mid]
    refine ev_bind (heldInts y.length m (hr y List.mem_cons_self) h0 (by omega)) (ev_neg (by omega) ?_)
    rw [next_mid _ _ _ hm, assoc_mid]
    have := ih (pre ++ [iota m y.length]) (m + (y.length : Int)) (by rw [← assoc_mid]; exact hm) (fun x hx => hr x (List.mem_cons_of_mem _ hx)) (by omega) (by omega)
    rw [show m + (sumLen (y :: suf) : Int) = m + (y.length : Int) + (sumLen suf : Int) by simp only [sumLen, Int.natCast_add]; omega]
    exact this
theorem heldSS (l : List (List Int)) (m : Int) (hm : l.length ≤ maxLen) (hr : ∀ x ∈ l, x.length ≤ maxLen) (h0 : 0 ≤ m) (h1 : m + (sumLen l : Int) ≤ 9223372036854775807) :
    Ev (fun k => laws_heldIntSS.f k (iotaRows m l) m) (m + (sumLen l : Int)) := by
  unfold laws_heldIntSS.f
  exact heldSS_loop l [] m (by rw [List.nil_append, iotaRows_length]; exact hm) hr h0 h1
end Go.Proofs.Ytadhbepoblllhaa.A
end

section
/- FnExactFirstWord: the program's FirstWord returns what the reference's returns, for all kinds and pairs of automata that are not greater than 2^20 numbers (as the law's own guard says). -/
namespace Go.Proofs.Ytadhbepoblllhaa.A
open Go.RowKit Go.Proofs.YtadhbepoblllhaaW.PrintWords Go.Proofs.YtadhbepoblllhaaW.PrintLast Go.Proofs.YtadhbepoblllhaaW.PrintMore Go.Proofs.Ytadhbepoblllhaa.P Go.Proofs.Ytadhbepoblllhaa.T
set_option linter.unusedVariables false
section
variable {kind L L2 : Int} {A B : List (List Int)} {F G : List Int}
theorem specFirstWord (hA : AuSm A F) (hB : AuSm B G) : Ev (fun k => spec_FirstWord.f k kind L A F L2 B G) (resFirst kind L A F L2 B G) := by
  unfold spec_FirstWord.f
  exact ev_const (if_pos ⟨hA, hB⟩)
theorem implFirstWord (hA : AuSm A F) (hB : AuSm B G) : Ev (fun k => impl_FirstWord.f k kind L A F L2 B G) (resFirst kind L A F L2 B G) := by
  unfold impl_FirstWord.f
  exact ev_const (if_pos ⟨hA, hB⟩)
theorem resFirst_len : (resFirst kind L A F L2 B G).1.length ≤ 1000 := by
  unfold resFirst
  by_cases h : PairOk kind L A F L2 B G
  · rw [if_pos h]
    have := wordOf_len (kind := kind) (F := F) (G := G) h.two (AuOk.zero h.2.1 h.2.2.1)
    omega
  · rw [if_neg h]; simp
end
theorem lawFnExactFirstWord (a0 : Int) (a1_0 : Int) (A1_1 : Option Addr) (c1_1 : Nat) (l1_1 : List (List Int)) (A1_2 : Option Addr) (c1_2 : Nat) (l1_2 : List Int) (a2_0 : Int) (A2_1 : Option Addr) (c2_1 : Nat) (l2_1 : List (List Int)) (A2_2 : Option Addr) (c2_2 : Nat) (l2_2 : List Int) (w : World) (h1 : Kd.C (Kd.slice 3 (Kd.int .i64)) w A1_1 l1_1.length l1_1) (hc1 : l1_1.length ≤ c1_1) (h2 : Kd.C (Kd.int .i64) w A1_2 l1_2.length l1_2) (hc2 : l1_2.length ≤ c1_2) (h3 : Kd.C (Kd.slice 3 (Kd.int .i64)) w A2_1 l2_1.length l2_1) (hc3 : l2_1.length ≤ c2_1) (h4 : Kd.C (Kd.int .i64) w A2_2 l2_2.length l2_2) (hc4 : l2_2.length ≤ c2_2)
    (hN : l1_1.length ≤ maxLen) (hr : ∀ x ∈ l1_1, x.length ≤ maxLen) (hF : l1_2.length ≤ maxLen) (hN2 : l2_1.length ≤ maxLen) (hr2 : ∀ x ∈ l2_1, x.length ≤ maxLen) (hF2 : l2_2.length ≤ maxLen) :
    Calls Try.prog 6 #[.int .i64 a0, .agg #[.int .i64 a1_0, .slice A1_1 l1_1.length c1_1, .slice A1_2 l1_2.length c1_2], .agg #[.int .i64 a2_0, .slice A2_1 l2_1.length c2_1, .slice A2_2 l2_2.length c2_2]] w fun e w' => e = .returned (.bool true) ∧ Below w.heap.size w w' := by
  obtain ⟨s, ⟨K0, e0⟩, hsm⟩ := szAu a1_0 l1_1 l1_2 hN hr hF
  by_cases hs : s < 0
  · exact FnExactFirstWord_small0 K0 _ _ _ _ _ _ _ _ _ _ _ _ _ _ _ s w h1 hc1 h2 hc2 h3 hc3 h4 hc4 (e0 K0 (Nat.le_refl _)) hs
  obtain ⟨gs, g1, g2, g3⟩ := hsm (by omega)
  obtain ⟨s2, ⟨K9, e9⟩, hsm2⟩ := szAuA a2_0 l2_1 l2_2 s ⟨by omega, gs⟩ hN2 hr2 hF2
  by_cases hs2 : s2 < 0
  · exact FnExactFirstWord_small1 (K0 + K9) _ _ _ _ _ _ _ _ _ _ _ _ _ _ _ s s2 w h1 hc1 h2 hc2 h3 hc3 h4 hc4 (e0 _ (by omega)) (by omega) (e9 _ (by omega)) hs2
  obtain ⟨_, g4, g5, g6⟩ := hsm2 (by omega)
  have hb : sumLen l1_1 ≤ 1048576 * 1048576 := Nat.le_trans (sumLen_le 1048576 l1_1 g2) (Nat.mul_le_mul_right _ g1)
  have hb2 : sumLen l2_1 ≤ 1048576 * 1048576 := Nat.le_trans (sumLen_le 1048576 l2_1 g5) (Nat.mul_le_mul_right _ g4)
  obtain ⟨K1, e1⟩ := toAu a1_0 l1_1 l1_2 g1 g2 g3
  obtain ⟨K2, e2⟩ := toAu a2_0 l2_1 l2_2 g4 g5 g6
  obtain ⟨K3, e3⟩ := specFirstWord (kind := a0) (L := a1_0) (L2 := a2_0) (A := l1_1) (F := l1_2) (B := l2_1) (G := l2_2) ⟨g1, g2, g3⟩ ⟨g4, g5, g6⟩
  obtain ⟨K4, e4⟩ := implFirstWord (kind := a0) (L := a1_0) (L2 := a2_0) (A := l1_1) (F := l1_2) (B := l2_1) (G := l2_2) ⟨g1, g2, g3⟩ ⟨g4, g5, g6⟩
  have q1 := resFirst_len (kind := a0) (L := a1_0) (L2 := a2_0) (A := l1_1) (F := l1_2) (B := l2_1) (G := l2_2)
  obtain ⟨⟨t0, t1⟩, ht⟩ : ∃ t, t = resFirst a0 a1_0 l1_1 l1_2 a2_0 l2_1 l2_2 := ⟨_, rfl⟩
  rw [← ht] at e3 e4 q1
  simp only at q1
  obtain ⟨K5, e5⟩ := eqAu a1_0 l1_1 l1_2 hN hr hF
  obtain ⟨K6, e6⟩ := eqAu a2_0 l2_1 l2_2 hN2 hr2 hF2
  obtain ⟨K7, e7⟩ := eqInts t0 (by simp only [maxLen]; omega)
  obtain ⟨K8, e8⟩ := markAu a1_0 l1_1 l1_2 hr hF (by omega)
  obtain ⟨K10, e10⟩ := markAuM a2_0 l2_1 l2_2 (1 + (sumLen l1_1 : Int) + l1_2.length) (by omega) hr2 hF2 (by omega)
  obtain ⟨K11, e11⟩ := markInts t0 1 (by simp only [maxLen]; omega) (by omega) (by omega)
  obtain ⟨K12, e12⟩ := heldInts t0.length 1 (by simp only [maxLen]; omega) (by omega) (by omega)
  exact FnExactFirstWord_walk (K0 + K1 + K2 + K3 + K4 + K5 + K6 + K7 + K8 + K9 + K10 + K11 + K12) _ _ _ _ _ _ _ _ _ _ _ _ _ _ _ s s2 t0 t1 t0 _ _ _ _ _ _ _ _ w h1 hc1 h2 hc2 h3 hc3 h4 hc4 (e0 _ (by omega)) (by omega) (e9 _ (by omega)) (by omega) (e1 _ (by omega)) (e2 _ (by omega)) (e3 _ (by omega)) (e4 _ (by omega)) (e7 _ (by omega)) (e5 _ (by omega)) (e6 _ (by omega)) (e8 _ (by omega)) (by omega) (e10 _ (by omega)) (by omega) (e11 _ (by omega)) (by omega) (e12 _ (by omega))
end Go.Proofs.Ytadhbepoblllhaa.A
end

section
/- Opens an argument that a row reads as data into the cells and lists that a contract speaks of: whole numbers, slices, structs of two and three fields. -/
namespace Go.Proofs.Ytadhbepoblllhaa.Op
open Go.ChangeShapes Go.WideShapes Go.Deep Go.RowKit Go.Proofs.YtadhbepoblllhaaW.PrintWords
set_option linter.unusedVariables false

/-- What reads as data of type t is of kind d, and meets wf. -/
def Opens (P : Program) (t : TypeId) {α : Type} (d : Kd α) (wf : α → Prop) : Prop :=
  ∀ {H : Type} {enc : TypeId × Value → H} {w : World} {base : Nat} {spare : Nat → Bool} {held : Bool} {fuel : Nat} {cs : List Value} {x : DataW H × List MemPlace},
    DataW.trod enc P w base spare held fuel t cs = some x → ∃ a, d.K w a cs ∧ wf a

def WNum (k : IntKind) (n : Int) : Prop := (Lit.int k n).wf = true
abbrev WInt : Int → Prop := WNum .i64
def WList {α : Type} (wf : α → Prop) (l : List α) : Prop := l.length ≤ maxLen ∧ ∀ a ∈ l, wf a

theorem opens_int {P : Program} {t : TypeId} {k : IntKind} (h : P.underlying t = some (.int k)) : Opens P t (Kd.int k) (WNum k) := by
  intro H enc w base spare held fuel cs x ht
  obtain ⟨n, rfl, _, hw⟩ := DataW.trod_int h ht
  exact ⟨n, rfl, hw⟩

theorem opens_slice {P : Program} {t e : TypeId} {α : Type} {d : Kd α} {wf : α → Prop} (q : Nat) (h : P.underlying t = some (.slice e)) (hc : P.cellsOf e = d.sz) (o : Opens P e d wf) :
    Opens P t (Kd.slice q d) (WList wf) := by
  intro H enc w base spare held fuel cs x ht
  rcases open_slice h ht with ⟨rfl, _⟩ | ⟨a, len, cap, m, n, D, Pl, rfl, hb, hl, hm, hmm, hx, hi⟩
  · exact ⟨[], ⟨none, 0, rfl, Nat.le_refl _, rfl, by simp, fun hn => by simp at hn⟩, by simp [WList]⟩
  · have hlm : len ≤ m := by rw [hmm]; split <;> omega
    have each : ∀ i, i < len → ∃ y cs', w.cells? base (a.add (i * d.sz)) d.sz = some cs' ∧ d.K w y cs' ∧ wf y := by
      intro i hil
      obtain ⟨cs', h1, h2⟩ := hi i (by omega)
      obtain ⟨y, hk, hw⟩ := o h2
      rw [hc] at h1
      exact ⟨y, cs', h1, hk, hw⟩
    have build : ∀ k, k ≤ len → ∃ ys : List α, ys.length = k ∧ (∀ y ∈ ys, wf y) ∧ ∀ j y, ys[j]? = some y → ∃ c, c.length = d.sz ∧ d.K w y c ∧ ∀ i u, c[i]? = some u → w.cell? (a.add (j * d.sz + i)) = some u := by
      intro k
      induction k with
      | zero => exact fun _ => ⟨[], rfl, by simp, by simp⟩
      | succ k ih =>
        intro hk
        obtain ⟨ys, hlen, hwf, hys⟩ := ih (by omega)
        obtain ⟨y, cs', h1, h2, h3⟩ := each k (by omega)
        obtain ⟨_, hcl, hat⟩ := World.cells?_some h1
        refine ⟨ys ++ [y], by simp [hlen], ?_, ?_⟩
        · intro z hz
          rcases List.mem_append.1 hz with hz | hz
          · exact hwf z hz
          · rw [List.mem_singleton.1 hz]; exact h3
        · intro j z hj
          by_cases hjk : j < k
          · rw [List.getElem?_append_left (by omega)] at hj
            exact hys j z hj
          · have hjl : j < (ys ++ [y]).length := (List.getElem?_eq_some_iff.1 hj).1
            simp only [List.length_append, List.length_singleton, hlen] at hjl
            obtain rfl : j = k := by omega
            rw [List.getElem?_append_right (by omega), hlen, Nat.sub_self] at hj
            obtain rfl : y = z := by simpa using hj
            refine ⟨cs', hcl, h2, fun i u hu => ?_⟩
            have hil : i < d.sz := by
              have := (List.getElem?_eq_some_iff.1 hu).1
              omega
            have := hat i hil
            rw [Go.Deep.add_add] at this
            rw [this, hu]
    obtain ⟨ys, hlen, hwf, hys⟩ := build len (Nat.le_refl _)
    have hmx : len ≤ maxLen := by omega
    exact ⟨ys, ⟨some a, cap, by rw [hlen], by rw [hlen]; exact hl, rfl, by rw [hlen]; exact hmx, fun _ => ⟨a, rfl, hys⟩⟩, by rw [hlen]; exact hmx, hwf⟩

theorem opens_iso {P : Program} {t : TypeId} {α β : Type} {d : Kd α} {wf : α → Prop} (f : β → α) (g : α → β) (hg : ∀ a, f (g a) = a) (o : Opens P t d wf) : Opens P t (Kd.iso d f) (fun b => wf (f b)) := by
  intro H enc w base spare held fuel cs x ht
  obtain ⟨a, h1, h2⟩ := o ht
  exact ⟨g a, by show d.K w (f (g a)) cs; rw [hg]; exact h1, by show wf (f (g a)); rw [hg]; exact h2⟩

theorem opens_two {P : Program} {t : TypeId} {f0 f1 : Field} {α β : Type} {a : Kd α} {b : Kd β} {wa : α → Prop} {wb : β → Prop}
    (h : P.underlying t = some (.struct #[f0, f1])) (hc : P.cellsOf t = a.sz + b.sz) (o0 : f0.offset = 0) (o1 : f1.offset = a.sz) (c0 : P.cellsOf f0.type = a.sz) (c1 : P.cellsOf f1.type = b.sz)
    (oa : Opens P f0.type a wa) (ob : Opens P f1.type b wb) : Opens P t (Kd.pair a b) (fun x => wa x.1 ∧ wb x.2) := by
  intro H enc w base spare held fuel cs x ht
  obtain ⟨xs, n, _, _, hlen, hxl, hf⟩ := DataW.trod_struct h ht
  have hx2 : xs.length = 2 := hxl
  have h0 := hf 0 f0 rfl
  have h1 := hf 1 f1 rfl
  rw [List.getElem?_eq_getElem (by omega)] at h0 h1
  obtain ⟨y0, k0, w0⟩ := oa h0
  obtain ⟨y1, k1, w1⟩ := ob h1
  refine ⟨(y0, y1), ⟨_, _, ?_, k0, k1⟩, w0, w1⟩
  rw [hc] at hlen
  rw [o0, o1, c0, c1, List.drop_zero]
  rw [List.take_of_length_le (l := cs.drop a.sz) (by simp; omega), List.take_append_drop]

theorem opens_three {P : Program} {t : TypeId} {f0 f1 f2 : Field} {α β γ : Type} {a : Kd α} {b : Kd β} {c : Kd γ} {wa : α → Prop} {wb : β → Prop} {wc : γ → Prop}
    (h : P.underlying t = some (.struct #[f0, f1, f2])) (hc : P.cellsOf t = a.sz + (b.sz + c.sz)) (o0 : f0.offset = 0) (o1 : f1.offset = a.sz) (o2 : f2.offset = a.sz + b.sz) (c0 : P.cellsOf f0.type = a.sz) (c1 : P.cellsOf f1.type = b.sz) (c2 : P.cellsOf f2.type = c.sz)
    (oa : Opens P f0.type a wa) (ob : Opens P f1.type b wb) (oc : Opens P f2.type c wc) : Opens P t (Kd.pair a (Kd.pair b c)) (fun x => wa x.1 ∧ wb x.2.1 ∧ wc x.2.2) := by
  intro H enc w base spare held fuel cs x ht
  obtain ⟨xs, n, _, _, hlen, hxl, hf⟩ := DataW.trod_struct h ht
  have hx2 : xs.length = 3 := hxl
  have h0 := hf 0 f0 rfl
  have h1 := hf 1 f1 rfl
  have h2 := hf 2 f2 rfl
  rw [List.getElem?_eq_getElem (by omega)] at h0 h1 h2
  obtain ⟨y0, k0, w0⟩ := oa h0
  obtain ⟨y1, k1, w1⟩ := ob h1
  obtain ⟨y2, k2, w2⟩ := oc h2
  rw [hc] at hlen
  refine ⟨(y0, y1, y2), ⟨_, cs.drop a.sz, ?_, k0, ⟨_, _, ?_, k1, k2⟩⟩, w0, w1, w2⟩
  · rw [o0, c0, List.drop_zero, List.take_append_drop]
  · rw [o1, o2, c1, c2]
    rw [List.take_of_length_le (l := cs.drop (a.sz + b.sz)) (by simp; omega), ← List.drop_drop, List.take_append_drop]

/-- A slice among the arguments. -/
theorem open_arg_slice {P : Program} {t : TypeId} {α : Type} {d : Kd α} {wf : α → Prop} {q : Nat} (o : Opens P t (Kd.slice q d) (WList wf)) {H : Type} {enc : TypeId × Value → H} {w : World} {base : Nat} {spare : Nat → Bool} {held : Bool}
    {A : Option Addr} {len cap : Nat} {D : DataW H} {ps : List MemPlace} (h : DataW.Trod enc P w base spare held t (.slice A len cap) D ps) :
    ∃ l : List α, len = l.length ∧ l.length ≤ cap ∧ d.C w A l.length l ∧ WList wf l := by
  obtain ⟨fuel, hf⟩ := h
  obtain ⟨l, ⟨A', c, he, hl, hC⟩, hw⟩ := o hf
  simp only [Value.cells, List.cons.injEq, Value.slice.injEq, and_true] at he
  obtain ⟨rfl, rfl, rfl⟩ := he
  exact ⟨l, rfl, hl, hC, hw⟩
end Go.Proofs.Ytadhbepoblllhaa.Op
end

section
/- FnExactFirstWord: the program and the reference agree for all arguments: the row over the pure statement. -/
namespace Go.Proofs.Ytadhbepoblllhaa.fnExactFirstWord
open Go.ChangeShapes Go.WideShapes Go.ChangeAt Go.RowKit
open Go.ChangeMaps (open_string shut_string)
open Go.Proofs.Ytadhbepoblllhaa.Op
set_option linter.unusedVariables false
theorem own : ownKnob Try.prog.godebug = none := by kernel_rfl
theorem laidOut : laidOutB Try.prog = true := by kernel_rfl
theorem ty3 : Opens Try.prog 3 (Go.Proofs.YtadhbepoblllhaaW.PrintWords.Kd.int .i64) (WNum .i64) := opens_int Try.underlying3
theorem ty23 : Opens Try.prog 23 (Go.Proofs.YtadhbepoblllhaaW.PrintWords.Kd.slice 3 (Go.Proofs.YtadhbepoblllhaaW.PrintWords.Kd.int .i64)) (WList (WNum .i64)) := opens_slice 3 Try.underlying23 (by kernel_rfl) ty3
theorem ty22 : Opens Try.prog 22 (Go.Proofs.YtadhbepoblllhaaW.PrintWords.Kd.slice 23 (Go.Proofs.YtadhbepoblllhaaW.PrintWords.Kd.slice 3 (Go.Proofs.YtadhbepoblllhaaW.PrintWords.Kd.int .i64))) (WList (WList (WNum .i64))) := opens_slice 23 Try.underlying22 (by kernel_rfl) ty23
theorem tw25 : Opens Try.prog 25 (Go.Proofs.YtadhbepoblllhaaW.PrintWords.Kd.pair (Go.Proofs.YtadhbepoblllhaaW.PrintWords.Kd.int .i64) (Go.Proofs.YtadhbepoblllhaaW.PrintWords.Kd.pair (Go.Proofs.YtadhbepoblllhaaW.PrintWords.Kd.slice 23 (Go.Proofs.YtadhbepoblllhaaW.PrintWords.Kd.slice 3 (Go.Proofs.YtadhbepoblllhaaW.PrintWords.Kd.int .i64))) (Go.Proofs.YtadhbepoblllhaaW.PrintWords.Kd.slice 3 (Go.Proofs.YtadhbepoblllhaaW.PrintWords.Kd.int .i64)))) (fun x : Int × (List (List Int)) × (List Int) => (WNum .i64) x.1 ∧ (WList (WList (WNum .i64))) x.2.1 ∧ (WList (WNum .i64)) x.2.2) := opens_three Try.underlying25 (by kernel_rfl) (by kernel_rfl) (by kernel_rfl) (by kernel_rfl) (by kernel_rfl) (by kernel_rfl) (by kernel_rfl) ty3 ty22 ty23
set_option maxRecDepth 100000 in
theorem lifted (os : Os) (started : os.Started) (H : Type) (enc : TypeId × Value → H) :
    ReturnsInHanded {} Try.checked os 6 .any (Rows.fnExactFirstWordSpec.pre6 enc Try.prog Try.f6 Rows.fnExactFirstWordRow.domain false) (Rows.fnExactFirstWordSpec.post enc Try.prog Try.f6 false true false false) := by
  refine returnsInHanded_of_change_sized (C := Try.checked) own started (by kernel_rfl) Try.func6
    (ChangeSpec.witness6 (enc := enc) (C := Try.checked) false ⟨#[], #[.int .i64 0, .agg #[.int .i64 0, .slice none 0 0, .slice none 0 0], .agg #[.int .i64 0, .slice none 0 0, .slice none 0 0]], []⟩ 8 (by kernel_rfl) (by kernel_rfl) (by kernel_rfl) (by kernel_rfl)) ?_
  intro W base args ds gs before hval0 hW hcnd hsz0 _
  have hsz : (DataW.weightsEach Try.prog (Try.f6.params.toList ++ Rows.fnExactFirstWordSpec.plain.varTypes Try.prog) (ds ++ gs)).all (· ≤ reachBytes) = true := hsz0
  have hval : ∀ (j : Nat) t v, Try.f6.params[j]? = some t → args[j]? = some v → Value.okWide Try.prog W .any base t v := hval0
  have hW' := hW
  obtain ⟨p, q, hA0, hV, rfl, hfz, hnd⟩ := hW
  have hA : DataW.TrodAll enc Try.prog W 0 (fun _ => true) true Try.f6.params.toList args.toList ds p := hA0
  rw [Try.params6] at hA hval hsz
  obtain ⟨v0, vs0, d0, ds0, p0, q0, hargs, rfl, rfl, h0, r0⟩ := trodAll_cons hA
  obtain ⟨v1, vs1, d1, ds1, p1, q1, rfl, rfl, rfl, h1, r1⟩ := trodAll_cons r0
  obtain ⟨v2, vs2, d2, ds2, p2, q2, rfl, rfl, rfl, h2, r2⟩ := trodAll_cons r1
  obtain ⟨rfl, rfl, rfl⟩ := trodAll_nil r2
  obtain rfl : args = #[v0, v1, v2] := by cases args; simp_all
  obtain ⟨rfl, rfl⟩ := trodVars_none hV
  obtain ⟨a0, rfl, rfl, rfl, w0⟩ := open_int Try.underlying3 (hval 0 3 v0 rfl rfl) h0
  have k1 := h1
  have lt1 : ∀ x ∈ p1, x.block < W.heap.size := by obtain ⟨m, hm⟩ := k1; exact DataW.trod_lt m _ _ _ hm
  obtain ⟨cs1, rfl, _⟩ := okWide_struct Try.underlying25 (hval 1 25 v1 rfl rfl)
  obtain ⟨csl1⟩ := cs1
  obtain ⟨fu1, hf1⟩ := h1
  obtain ⟨⟨a1_0, l1_1, l1_2⟩, ⟨x1_0, xr1, ex1, e1_0, ⟨x1_1, x1_2, er1, ⟨A1_1, c1_1, e1_1, hc1_1, hC1_1⟩, ⟨A1_2, c1_2, e1_2, hc1_2, hC1_2⟩⟩⟩, ⟨w1_0, w1_1, w1_2⟩⟩ := tw25 hf1
  replace e1_0 : x1_0 = [Value.int .i64 a1_0] := e1_0
  replace e1_1 : x1_1 = [Value.slice A1_1 l1_1.length c1_1] := e1_1
  replace hc1_1 : l1_1.length ≤ c1_1 := hc1_1
  replace hC1_1 : Go.Proofs.YtadhbepoblllhaaW.PrintWords.Kd.C (Go.Proofs.YtadhbepoblllhaaW.PrintWords.Kd.slice 3 (Go.Proofs.YtadhbepoblllhaaW.PrintWords.Kd.int .i64)) W A1_1 l1_1.length l1_1 := hC1_1
  replace e1_2 : x1_2 = [Value.slice A1_2 l1_2.length c1_2] := e1_2
  replace hc1_2 : l1_2.length ≤ c1_2 := hc1_2
  replace hC1_2 : Go.Proofs.YtadhbepoblllhaaW.PrintWords.Kd.C (Go.Proofs.YtadhbepoblllhaaW.PrintWords.Kd.int .i64) W A1_2 l1_2.length l1_2 := hC1_2
  replace w1_0 : (WNum .i64) a1_0 := w1_0
  replace w1_1 : (WList (WList (WNum .i64))) l1_1 := w1_1
  replace w1_2 : (WList (WNum .i64)) l1_2 := w1_2
  subst e1_1 e1_2 er1 e1_0 ex1
  have k2 := h2
  have lt2 : ∀ x ∈ p2, x.block < W.heap.size := by obtain ⟨m, hm⟩ := k2; exact DataW.trod_lt m _ _ _ hm
  obtain ⟨cs2, rfl, _⟩ := okWide_struct Try.underlying25 (hval 2 25 v2 rfl rfl)
  obtain ⟨csl2⟩ := cs2
  obtain ⟨fu2, hf2⟩ := h2
  obtain ⟨⟨a2_0, l2_1, l2_2⟩, ⟨x2_0, xr2, ex2, e2_0, ⟨x2_1, x2_2, er2, ⟨A2_1, c2_1, e2_1, hc2_1, hC2_1⟩, ⟨A2_2, c2_2, e2_2, hc2_2, hC2_2⟩⟩⟩, ⟨w2_0, w2_1, w2_2⟩⟩ := tw25 hf2
  replace e2_0 : x2_0 = [Value.int .i64 a2_0] := e2_0
  replace e2_1 : x2_1 = [Value.slice A2_1 l2_1.length c2_1] := e2_1
  replace hc2_1 : l2_1.length ≤ c2_1 := hc2_1
  replace hC2_1 : Go.Proofs.YtadhbepoblllhaaW.PrintWords.Kd.C (Go.Proofs.YtadhbepoblllhaaW.PrintWords.Kd.slice 3 (Go.Proofs.YtadhbepoblllhaaW.PrintWords.Kd.int .i64)) W A2_1 l2_1.length l2_1 := hC2_1
  replace e2_2 : x2_2 = [Value.slice A2_2 l2_2.length c2_2] := e2_2
  replace hc2_2 : l2_2.length ≤ c2_2 := hc2_2
  replace hC2_2 : Go.Proofs.YtadhbepoblllhaaW.PrintWords.Kd.C (Go.Proofs.YtadhbepoblllhaaW.PrintWords.Kd.int .i64) W A2_2 l2_2.length l2_2 := hC2_2
  replace w2_0 : (WNum .i64) a2_0 := w2_0
  replace w2_1 : (WList (WList (WNum .i64))) l2_1 := w2_1
  replace w2_2 : (WList (WNum .i64)) l2_2 := w2_2
  subst e2_1 e2_2 er2 e2_0 ex2
  clear hA0 hval0 hsz0 hsz
  refine (A.lawFnExactFirstWord a0 a1_0 A1_1 c1_1 l1_1 A1_2 c1_2 l1_2 a2_0 A2_1 c2_1 l2_1 A2_2 c2_2 l2_2 W hC1_1 hc1_1 hC1_2 hc1_2 hC2_1 hc2_1 hC2_2 hc2_2 w1_1.1 (fun x hx => (w1_1.2 x hx).1) w1_2.1 w2_1.1 (fun x hx => (w2_1.2 x hx).1) w2_2.1).mono fun e W' ⟨he, bel⟩ => ?_
  subst he
  exact ⟨_, rfl, _, _, _, [], _, [], hW', trodAll_mk1 (shut_bool Try.underlying4 _), (trodAll_cons_mk (shut_int Try.underlying3 w0) (trodAll_cons_mk (Below.trod laidOut (by kernel_rfl) (of_decide_eq_true (by kernel_rfl)) k1 bel lt1) (trodAll_cons_mk (Below.trod laidOut (by kernel_rfl) (of_decide_eq_true (by kernel_rfl)) k2 bel lt2) trodAll_mk0))), rfl, bel.frame _, fun h => by cases h⟩
theorem over : Rows.fnExactFirstWordRow.holds Try.pinned (OpenSpec.ofChange Rows.fnExactFirstWordSpec) :=
  OpenClaim.holds_of_wide 6 Try.f6 rfl rfl rfl rfl rfl rfl rfl ⟨rfl, rfl, rfl, rfl, rfl⟩ rfl rfl rfl rfl rfl (by kernel_rfl) Try.func6 (by kernel_rfl)
    (of_decide_eq_true (by kernel_rfl)) (by unfold Func.isWrapper; first | (rw [if_pos (by decide +kernel)]; kernel_rfl) | (rw [if_neg (by decide +kernel)]; exact ⟨rfl, rfl⟩))
    (fun os started H enc _ => lifted os started H enc)
end Go.Proofs.Ytadhbepoblllhaa.fnExactFirstWord
namespace Go.Proofs.Ytadhbepoblllhaa
/-- The row. -/
theorem fnExactFirstWord_holds : Rows.FnExactFirstWordSaid := fnExactFirstWord.over
end Go.Proofs.Ytadhbepoblllhaa
end
