/- FnExactSymmetricValues: texts of this claim in one: WalkFnExactSymmetricValues, ASym, LawSymmetricValues, Op, RowFnExactSymmetricValues. -/
import Derived.Test.YtnccomklpfbcpaaZFnExactSymmetricValues0
import Derived.Test.YtnccomklpfbcpaaYFnExactSymmetricValuesPx40
import Derived.Test.YtnccomklpfbcpaaYFnExactSymmetricValuesPx45
import Derived.Test.YtnccomklpfbcpaaOwnW
import Derived.Test.YtnccomklpfbcpaaYFnExactSymmetricValuesATab
import Derived.Test.YtnccomklpfbcpaaYFnExactSymmetricValuesPx43
import Derived.Test.YtnccomklpfbcpaaYFnExactSymmetricValuesPx41
import Derived.Test.YtnccomklpfbcpaaYFnExactSymmetricValuesPx35
import Derived.Deep.Slices
import Derived.ChangeSame
import Derived.ChangeArms
import Derived.Test.YtnccomklpfbcpaaWWords
import Derived.Test.YtnccomklpfbcpaaRows
import Derived.WalkKit
import Derived.ProofKit
import Derived.OpenShut
import Derived.ShutString
import Derived.ChangeOld
import Derived.Below
import Derived.SizedLaws
section
/- The walk of FnExactSymmetricValues along the one way on which all its tests succeed, and the short ones where an argument is too great. -/
namespace Go.Proofs.Ytnccomklpfbcpaa.P
open Go.RowKit Go.Proofs.YtnccomklpfbcpaaW.PrintWords Go.Proofs.YtnccomklpfbcpaaW.PrintLast Go.Proofs.YtnccomklpfbcpaaW.PrintMore Go.Proofs.Ytnccomklpfbcpaa
set_option linter.unusedVariables false
set_option linter.unusedSimpArgs false
set_option maxHeartbeats 4000000 in
set_option maxRecDepth 100000 in
theorem FnExactSymmetricValues_small0 (k : Nat) (a0_0 : Int) (A0_1 : Option Addr) (c0_1 : Nat) (l0_1 : List (Int)) (z_aT : Int) (w : World)
    (hr0_1 : Kd.C (Kd.int .i64) w A0_1 l0_1.length l0_1) (hc0_1 : l0_1.length ≤ c0_1)
    (e_sz_aT : laws_szTable.f a0_0 l0_1 1048576 = some z_aT)
    (hz_aT : z_aT < 0) :
    Calls Try.prog 6 #[.agg #[.int .i64 a0_0, .slice A0_1 l0_1.length c0_1]] w fun e w' => e = .returned (.bool true) ∧ Below w.heap.size w w' := by
  have hu28 := Try.underlying28
  have hu24 := Try.underlying24
  have hzb_aT : decide (z_aT < 0) = true := decide_eq_true (by omega)
  have HR0_1 := Aside0.mk hr0_1
  clear hr0_1
  have HC0_1 := Aside0.mk hc0_1
  clear hc0_1
  have He_sz_aT := Aside0.mk e_sz_aT
  clear e_sz_aT
  have HB := Aside0.mk (Below.refl w.heap.size w)
  go_enter Try.func6, Try.ntmps6
  go_wp2_with fail
  refine (laws_szTable.calls _ _ _ _ _ _ _ (Kd.C_below HR0_1.out (below_step HB.out (by repeat (first | with_reducible exact Below.refl _ _ | with_reducible apply below_alloc | with_reducible refine below_set ?_ (Nat.le_refl _) | with_reducible apply pw_below_drewN | with_reducible apply below_drew1)))) HC0_1.out He_sz_aT.out).mono ?_
  rintro e w1 ⟨rfl, hb⟩
  have BK_aT := Aside0.mk (blk_below (g := w.heap.size) (o := .cells #[.int .i64 a0_0, .slice A0_1 l0_1.length c0_1] 24 (0, 0)) (by (repeat (first | with_reducible refine blk_drewN ?_ _ | with_reducible refine blk_drew ?_)); exact (blk_new _ _)) hb)
  have HG_BK_aT : Aside0 (w.heap.size < w1.heap.size) := ⟨blk_lt BK_aT.out⟩
  have HW := Aside0.mk (below_step (w := w) (by repeat (first | with_reducible exact Below.refl _ _ | with_reducible apply below_alloc | with_reducible refine below_set ?_ (Nat.le_refl _) | with_reducible apply pw_below_drewN | with_reducible apply below_drew1)) hb)
  have HZ1 : Aside0 (w.heap.size ≤ w1.heap.size) := ⟨HW.out.size⟩
  replace HB := Aside0.mk (below_step HB.out HW.out)
  clear hb HW
  have czBK_aT_0 : w1.cell? ⟨w.heap.size, 0, none⟩ = some (.int .i64 a0_0) := (blk_cell BK_aT.out 0).trans rfl
  have czBK_aT_1 : w1.cell? ⟨w.heap.size, 1, none⟩ = some (.slice A0_1 l0_1.length c0_1) := (blk_cell BK_aT.out 1).trans rfl
  go_wp2_with fail
  go_ret
  exact ⟨rfl, below_step HB.out (by repeat (first | with_reducible exact Below.refl _ _ | with_reducible apply below_alloc | with_reducible refine below_set ?_ (Nat.le_refl _) | with_reducible apply pw_below_drewN | with_reducible apply below_drew1))⟩
set_option maxHeartbeats 4000000 in
set_option maxRecDepth 100000 in
theorem FnExactSymmetricValues_walk (k : Nat) (a0_0 : Int) (A0_1 : Option Addr) (c0_1 : Nat) (l0_1 : List (Int)) (z_aT : Int) (r0 : List (Int)) (r1 : Bool) (s0 : List (Int)) (kx0 : Int) (nx0_1 : List (Int)) (mg0 : Int) (ng0_0 : List (Int)) (w : World)
    (hr0_1 : Kd.C (Kd.int .i64) w A0_1 l0_1.length l0_1) (hc0_1 : l0_1.length ≤ c0_1)
    (e_sz_aT : laws_szTable.f a0_0 l0_1 1048576 = some z_aT)
    (hz_aT : 0 ≤ z_aT)
    (e_to_aT : laws_toTable.f k a0_0 l0_1 = some (a0_0, l0_1))
    (e_spec : spec_SymmetricValues.f k a0_0 l0_1 = some (r0, r1))
    (e_impl : impl_SymmetricValues.f k a0_0 l0_1 = some (s0, r1))
    (e_eq_w0 : laws_eqIntS.f k s0 r0 = some true)
    (e_eq_x0 : laws_eqTable.f k a0_0 l0_1 a0_0 l0_1 = some true)
    (e_mark_x0 : laws_markTable.f k a0_0 l0_1 1 = some (kx0, nx0_1))
    (hkx0 : 0 ≤ kx0)
    (e_mark_g0 : laws_markIntS.f k s0 1 = some (mg0, ng0_0))
    (hmg0 : 0 ≤ mg0)
    (e_held_g0 : laws_heldIntS.f k ng0_0 1 = some mg0) :
    Calls Try.prog 6 #[.agg #[.int .i64 a0_0, .slice A0_1 l0_1.length c0_1]] w fun e w' => e = .returned (.bool true) ∧ Below w.heap.size w w' := by
  have hu28 := Try.underlying28
  have hu24 := Try.underlying24
  have hzb_aT : decide (z_aT < 0) = false := decide_eq_false (by omega)
  have HR0_1 := Aside0.mk hr0_1
  clear hr0_1
  have HC0_1 := Aside0.mk hc0_1
  clear hc0_1
  have He_sz_aT := Aside0.mk e_sz_aT
  clear e_sz_aT
  have He_to_aT := Aside0.mk e_to_aT
  clear e_to_aT
  have He_spec := Aside0.mk e_spec
  clear e_spec
  have He_impl := Aside0.mk e_impl
  clear e_impl
  have He_eq_w0 := Aside0.mk e_eq_w0
  clear e_eq_w0
  have He_eq_x0 := Aside0.mk e_eq_x0
  clear e_eq_x0
  have He_mark_x0 := Aside0.mk e_mark_x0
  clear e_mark_x0
  have hkb_x0 : decide (kx0 < 0) = false := decide_eq_false (by omega)
  have He_mark_g0 := Aside0.mk e_mark_g0
  clear e_mark_g0
  have hmb_g0 : decide (mg0 < 0) = false := decide_eq_false (by omega)
  have He_held_g0 := Aside0.mk e_held_g0
  clear e_held_g0
  have HB := Aside0.mk (Below.refl w.heap.size w)
  go_enter Try.func6, Try.ntmps6
  go_wp2_with fail
  refine (laws_szTable.calls _ _ _ _ _ _ _ (Kd.C_below HR0_1.out (below_step HB.out (by repeat (first | with_reducible exact Below.refl _ _ | with_reducible apply below_alloc | with_reducible refine below_set ?_ (Nat.le_refl _) | with_reducible apply pw_below_drewN | with_reducible apply below_drew1)))) HC0_1.out He_sz_aT.out).mono ?_
  rintro e w1 ⟨rfl, hb⟩
  have BK_aT := Aside0.mk (blk_below (g := w.heap.size) (o := .cells #[.int .i64 a0_0, .slice A0_1 l0_1.length c0_1] 24 (0, 0)) (by (repeat (first | with_reducible refine blk_drewN ?_ _ | with_reducible refine blk_drew ?_)); exact (blk_new _ _)) hb)
  have HG_BK_aT : Aside0 (w.heap.size < w1.heap.size) := ⟨blk_lt BK_aT.out⟩
  have HW := Aside0.mk (below_step (w := w) (by repeat (first | with_reducible exact Below.refl _ _ | with_reducible apply below_alloc | with_reducible refine below_set ?_ (Nat.le_refl _) | with_reducible apply pw_below_drewN | with_reducible apply below_drew1)) hb)
  have HZ1 : Aside0 (w.heap.size ≤ w1.heap.size) := ⟨HW.out.size⟩
  replace HB := Aside0.mk (below_step HB.out HW.out)
  clear hb HW
  have czBK_aT_0 : w1.cell? ⟨w.heap.size, 0, none⟩ = some (.int .i64 a0_0) := (blk_cell BK_aT.out 0).trans rfl
  have czBK_aT_1 : w1.cell? ⟨w.heap.size, 1, none⟩ = some (.slice A0_1 l0_1.length c0_1) := (blk_cell BK_aT.out 1).trans rfl
  go_wp2_with fail
  refine (laws_toTable.calls k _ _ _ _ _ _ _ (Kd.C_below HR0_1.out (below_step HB.out (by repeat (first | with_reducible exact Below.refl _ _ | with_reducible apply below_alloc | with_reducible refine below_set ?_ (Nat.le_refl _) | with_reducible apply pw_below_drewN | with_reducible apply below_drew1)))) HC0_1.out He_to_aT.out).mono ?_
  rintro e w2 ⟨vt13_0, rfl, hf1, hb⟩
  clear czBK_aT_0 czBK_aT_1
  have HN := Aside0.mk HB.out.size
  have HW := Aside0.mk (below_step (w := w1) (by repeat (first | with_reducible exact Below.refl _ _ | with_reducible apply below_alloc | with_reducible refine below_set ?_ (Nat.le_refl _) | with_reducible apply pw_below_drewN | with_reducible apply below_drew1)) hb)
  have HZ2 : Aside0 (w1.heap.size ≤ w2.heap.size) := ⟨HW.out.size⟩
  replace HB := Aside0.mk (below_step HB.out HW.out)
  replace BK_aT := Aside0.mk (blk_below BK_aT.out HW.out)
  obtain ⟨lo1_, F1, HLO1⟩ := Own.R_iv (wN := w1) rfl hf1 HN.out (by repeat (first | with_reducible exact Below.refl _ _ | with_reducible apply below_alloc | with_reducible refine below_set ?_ (Nat.le_refl _) | with_reducible apply pw_below_drewN | with_reducible apply below_drew1)) hb
  obtain ⟨A1_, c1_, e1_⟩ := Kd.R_slice F1.out
  subst e1_
  clear hb HW HN hf1
  have czBK_aT_0 : w2.cell? ⟨w.heap.size, 0, none⟩ = some (.int .i64 a0_0) := (blk_cell BK_aT.out 0).trans rfl
  have czBK_aT_1 : w2.cell? ⟨w.heap.size, 1, none⟩ = some (.slice A0_1 l0_1.length c0_1) := (blk_cell BK_aT.out 1).trans rfl
  go_wp2_with fail
  refine (spec_SymmetricValues.calls k _ _ _ _ _ _ _ (Kd.C_below (Kd.R_reads' F1.out).2.2 (by repeat (first | with_reducible exact Below.refl _ _ | with_reducible apply below_alloc | with_reducible refine below_set ?_ (Nat.le_refl _) | with_reducible apply pw_below_drewN | with_reducible apply below_drew1))) (Kd.R_reads' F1.out).2.1 He_spec.out).mono ?_
  rintro e w3 ⟨vw0_0, rfl, hf2, hb⟩
  clear czBK_aT_0 czBK_aT_1
  have HN := Aside0.mk HB.out.size
  have HW := Aside0.mk (below_step (w := w2) (by repeat (first | with_reducible exact Below.refl _ _ | with_reducible apply below_alloc | with_reducible refine below_set ?_ (Nat.le_refl _) | with_reducible apply pw_below_drewN | with_reducible apply below_drew1)) hb)
  have HZ3 : Aside0 (w2.heap.size ≤ w3.heap.size) := ⟨HW.out.size⟩
  replace HB := Aside0.mk (below_step HB.out HW.out)
  replace F1 := Aside0.mk (Kd.R_below F1.out HW.out)
  replace BK_aT := Aside0.mk (blk_below BK_aT.out HW.out)
  obtain ⟨lo2_, F2, HLO2⟩ := Own.R_iv (wN := w2) rfl hf2 HN.out (by repeat (first | with_reducible exact Below.refl _ _ | with_reducible apply below_alloc | with_reducible refine below_set ?_ (Nat.le_refl _) | with_reducible apply pw_below_drewN | with_reducible apply below_drew1)) hb
  obtain ⟨A2_, c2_, e2_⟩ := Kd.R_slice F2.out
  subst e2_
  clear hb HW HN hf2
  have czBK_aT_0 : w3.cell? ⟨w.heap.size, 0, none⟩ = some (.int .i64 a0_0) := (blk_cell BK_aT.out 0).trans rfl
  have czBK_aT_1 : w3.cell? ⟨w.heap.size, 1, none⟩ = some (.slice A0_1 l0_1.length c0_1) := (blk_cell BK_aT.out 1).trans rfl
  go_wp2_with fail
  refine (laws_toTable.calls k _ _ _ _ _ _ _ (Kd.C_below HR0_1.out (below_step HB.out (by repeat (first | with_reducible exact Below.refl _ _ | with_reducible apply below_alloc | with_reducible refine below_set ?_ (Nat.le_refl _) | with_reducible apply pw_below_drewN | with_reducible apply below_drew1)))) HC0_1.out He_to_aT.out).mono ?_
  rintro e w4 ⟨vx0_0, rfl, hf3, hb⟩
  clear czBK_aT_0 czBK_aT_1
  have HN := Aside0.mk HB.out.size
  have HW := Aside0.mk (below_step (w := w3) (by repeat (first | with_reducible exact Below.refl _ _ | with_reducible apply below_alloc | with_reducible refine below_set ?_ (Nat.le_refl _) | with_reducible apply pw_below_drewN | with_reducible apply below_drew1)) hb)
  have HZ4 : Aside0 (w3.heap.size ≤ w4.heap.size) := ⟨HW.out.size⟩
  replace HB := Aside0.mk (below_step HB.out HW.out)
  replace F1 := Aside0.mk (Kd.R_below F1.out HW.out)
  replace F2 := Aside0.mk (Kd.R_below F2.out HW.out)
  replace BK_aT := Aside0.mk (blk_below BK_aT.out HW.out)
  obtain ⟨lo3_, F3, HLO3⟩ := Own.R_iv (wN := w3) rfl hf3 HN.out (by repeat (first | with_reducible exact Below.refl _ _ | with_reducible apply below_alloc | with_reducible refine below_set ?_ (Nat.le_refl _) | with_reducible apply pw_below_drewN | with_reducible apply below_drew1)) hb
  obtain ⟨A3_, c3_, e3_⟩ := Kd.R_slice F3.out
  subst e3_
  clear hb HW HN hf3
  have czBK_aT_0 : (w4.alloc (.cells #[.int .i64 a0_0, .slice A3_ l0_1.length c3_] 28)).cell? ⟨w.heap.size, 0, none⟩ = some (.int .i64 a0_0) := (blk_cell (blk_alloc BK_aT.out _) 0).trans rfl
  have czBK_aT_1 : (w4.alloc (.cells #[.int .i64 a0_0, .slice A3_ l0_1.length c3_] 28)).cell? ⟨w.heap.size, 1, none⟩ = some (.slice A0_1 l0_1.length c0_1) := (blk_cell (blk_alloc BK_aT.out _) 1).trans rfl
  go_wp2_with fail
  refine (impl_SymmetricValues.calls k _ _ _ _ _ _ _ (Kd.C_below (Kd.R_reads' F3.out).2.2 (by repeat (first | with_reducible exact Below.refl _ _ | with_reducible apply below_alloc | with_reducible refine below_set ?_ (Nat.le_refl _) | with_reducible apply pw_below_drewN | with_reducible apply below_drew1))) (Kd.R_reads' F3.out).2.1 He_impl.out).mono ?_
  rintro e w5 ⟨vg0_0, rfl, hf4, hb⟩
  clear czBK_aT_0 czBK_aT_1
  have HN := Aside0.mk HB.out.size
  have BK_x0 := Aside0.mk (blk_below (g := w4.heap.size) (o := .cells #[.int .i64 a0_0, .slice A3_ l0_1.length c3_] 28 (0, 0)) (by (repeat (first | with_reducible refine blk_drewN ?_ _ | with_reducible refine blk_drew ?_)); exact (blk_new _ _)) hb)
  have HG_BK_x0 : Aside0 (w4.heap.size < w5.heap.size) := ⟨blk_lt BK_x0.out⟩
  have HW := Aside0.mk (below_step (w := w4) (by repeat (first | with_reducible exact Below.refl _ _ | with_reducible apply below_alloc | with_reducible refine below_set ?_ (Nat.le_refl _) | with_reducible apply pw_below_drewN | with_reducible apply below_drew1)) hb)
  have HZ5 : Aside0 (w4.heap.size ≤ w5.heap.size) := ⟨HW.out.size⟩
  replace HB := Aside0.mk (below_step HB.out HW.out)
  replace F1 := Aside0.mk (Kd.R_below F1.out HW.out)
  replace F2 := Aside0.mk (Kd.R_below F2.out HW.out)
  replace F3 := Aside0.mk (Kd.R_below F3.out HW.out)
  replace BK_aT := Aside0.mk (blk_below BK_aT.out HW.out)
  obtain ⟨lo4_, F4, HLO4⟩ := Own.R_ivb (wN := w4) (w4.heap.size) rfl hf4 HN.out (by repeat (first | with_reducible exact Below.refl _ _ | with_reducible apply below_alloc | with_reducible refine below_set ?_ (Nat.le_refl _) | with_reducible apply pw_below_drewN | with_reducible apply below_drew1)) hb (blk_lt (o := .cells #[.int .i64 a0_0, .slice A3_ l0_1.length c3_] 28 (0, 0)) (by (repeat (first | with_reducible refine blk_drewN ?_ _ | with_reducible refine blk_drew ?_)); exact (blk_new _ _)))
  obtain ⟨A4_, c4_, e4_⟩ := Kd.R_slice F4.out
  subst e4_
  clear hb HW HN hf4
  have czBK_aT_0 : w5.cell? ⟨w.heap.size, 0, none⟩ = some (.int .i64 a0_0) := (blk_cell BK_aT.out 0).trans rfl
  have czBK_aT_1 : w5.cell? ⟨w.heap.size, 1, none⟩ = some (.slice A0_1 l0_1.length c0_1) := (blk_cell BK_aT.out 1).trans rfl
  have czBK_x0_0 : w5.cell? ⟨w4.heap.size, 0, none⟩ = some (.int .i64 a0_0) := (blk_cell BK_x0.out 0).trans rfl
  have czBK_x0_1 : w5.cell? ⟨w4.heap.size, 1, none⟩ = some (.slice A3_ l0_1.length c3_) := (blk_cell BK_x0.out 1).trans rfl
  go_wp2_with fail
  refine (laws_eqIntS.calls k _ _ _ _ _ _ _ _ (Kd.C_below (Kd.R_reads' F4.out).2.2 (by repeat (first | with_reducible exact Below.refl _ _ | with_reducible apply below_alloc | with_reducible refine below_set ?_ (Nat.le_refl _) | with_reducible apply pw_below_drewN | with_reducible apply below_drew1))) (Kd.R_reads' F4.out).2.1 (Kd.C_below (Kd.R_reads' F2.out).2.2 (by repeat (first | with_reducible exact Below.refl _ _ | with_reducible apply below_alloc | with_reducible refine below_set ?_ (Nat.le_refl _) | with_reducible apply pw_below_drewN | with_reducible apply below_drew1))) (Kd.R_reads' F2.out).2.1 He_eq_w0.out).mono ?_
  rintro e _ ⟨rfl, ⟨nd85_, rfl⟩⟩
  go_wp2_with fail
  refine start_ (n := 5) (S := fun w' => w'.cell? ⟨w4.heap.size, 0, none⟩ = some (.int .i64 a0_0) ∧ w'.cell? ⟨w4.heap.size, 1, none⟩ = some (.slice A3_ l0_1.length c3_) ∧ w'.cell? ⟨w.heap.size, 0, none⟩ = some (.int .i64 a0_0) ∧ w'.cell? ⟨w.heap.size, 1, none⟩ = some (.slice A0_1 l0_1.length c0_1)) (ds := []) #[false, false, false, false, false] (by kernel_rfl) rfl rfl ⟨(blk_cell BK_x0.out 0).trans rfl, (blk_cell BK_x0.out 1).trans rfl, (blk_cell BK_aT.out 0).trans rfl, (blk_cell BK_aT.out 1).trans rfl⟩ (fun hHeld => ?_)
  refine Own.anew_ (wN := w5) (by repeat (first | with_reducible exact Below.refl _ _ | with_reducible apply below_alloc | with_reducible refine below_set ?_ (Nat.le_refl _) | with_reducible apply pw_below_drewN | with_reducible apply below_drew1)) hHeld (fun w6 hb hHeld => ?_)
  clear czBK_aT_0 czBK_aT_1 czBK_x0_0 czBK_x0_1
  have HW := Aside0.mk hb
  have HZ6 : Aside0 (w5.heap.size ≤ w6.heap.size) := ⟨HW.out.size⟩
  replace HB := Aside0.mk (below_step HB.out HW.out)
  replace F1 := Aside0.mk (Kd.R_below F1.out HW.out)
  replace F2 := Aside0.mk (Kd.R_below F2.out HW.out)
  replace F3 := Aside0.mk (Kd.R_below F3.out HW.out)
  replace F4 := Aside0.mk (Kd.R_below F4.out HW.out)
  replace BK_aT := Aside0.mk (blk_below BK_aT.out HW.out)
  replace BK_x0 := Aside0.mk (blk_below BK_x0.out HW.out)
  clear hb HW
  refine take_ (i := 0) (N := some 41) (v := ?_) (a' := ?_) #[true, false, false, false, false] rfl rfl (by kernel_rfl) (fun _ _ _ h => h) (Or.inl ⟨by rfl, ?_⟩) hHeld ?_ ?_
  rotate_left
  · rintro w' ⟨s0_, s1_, s2_, s3_⟩
    go_simp
    with_reducible rfl
  rotate_left
  · simp only [Act.put, List.setIfInBounds_toArray, List.set_cons_zero, List.set_cons_succ, i64_w, i32_w]
    rfl
  refine take_ (i := 1) (N := some 42) (v := ?_) (a' := ?_) #[true, true, false, false, false] rfl rfl (by kernel_rfl) (fun _ _ _ h => h) (Or.inl ⟨by rfl, ?_⟩) hHeld ?_ ?_
  rotate_left
  · rintro w' ⟨s0_, s1_, s2_, s3_⟩
    go_simp
    with_reducible rfl
  rotate_left
  · simp only [Act.put, List.setIfInBounds_toArray, List.set_cons_zero, List.set_cons_succ, i64_w, i32_w]
    rfl
  refine one_ (i := 2) (N := some 43) #[true, true, true, false, false] rfl rfl (by kernel_rfl) (by decide) (fun K hK => ?_)
  refine goes_ Try.func11 (by kernel_rfl) rfl #[.agg #[.int .i64 a0_0, .slice A0_1 l0_1.length c0_1]] (by rfl) rfl rfl (by (try simp only [List.map_toArray, List.map_cons, List.map_nil]); first | done | rfl | (simp only [List.length_drop, List.length_take]; rfl)) ?_
  with_reducible refine (laws_toTable.calls k _ _ _ _ _ _ _ (Kd.C_below HR0_1.out (below_step HB.out (by repeat (first | with_reducible exact Below.refl _ _ | with_reducible apply below_alloc | with_reducible refine below_set ?_ (Nat.le_refl _) | with_reducible apply pw_below_drewN | with_reducible apply below_drew1)))) HC0_1.out He_to_aT.out).mono ?_
  rintro e w7 ⟨vq6_0, rfl, hf5, hb⟩
  refine ⟨_, rfl, ?_⟩
  have HN := Aside0.mk HB.out.size
  have HW := Aside0.mk (below_step (w := w6) (by repeat (first | with_reducible exact Below.refl _ _ | with_reducible apply below_alloc | with_reducible refine below_set ?_ (Nat.le_refl _) | with_reducible apply pw_below_drewN | with_reducible apply below_drew1)) hb)
  have HZ7 : Aside0 (w6.heap.size ≤ w7.heap.size) := ⟨HW.out.size⟩
  replace HB := Aside0.mk (below_step HB.out HW.out)
  replace F1 := Aside0.mk (Kd.R_below F1.out HW.out)
  replace F2 := Aside0.mk (Kd.R_below F2.out HW.out)
  replace F3 := Aside0.mk (Kd.R_below F3.out HW.out)
  replace F4 := Aside0.mk (Kd.R_below F4.out HW.out)
  replace BK_aT := Aside0.mk (blk_below BK_aT.out HW.out)
  replace BK_x0 := Aside0.mk (blk_below BK_x0.out HW.out)
  obtain ⟨lo5_, F5, HLO5⟩ := Own.R_iv (wN := w6) rfl hf5 HN.out (by repeat (first | with_reducible exact Below.refl _ _ | with_reducible apply below_alloc | with_reducible refine below_set ?_ (Nat.le_refl _) | with_reducible apply pw_below_drewN | with_reducible apply below_drew1)) hb
  obtain ⟨A5_, c5_, e5_⟩ := Kd.R_slice F5.out
  subst e5_
  clear hb HW HN hf5
  refine hK.out _ _ ⟨(blk_cell BK_x0.out 0).trans rfl, (blk_cell BK_x0.out 1).trans rfl, (blk_cell BK_aT.out 0).trans rfl, (blk_cell BK_aT.out 1).trans rfl⟩ (fun hHeld => ?_)
  clear hK K
  refine norm_ (a' := ?_) ?_ ?_
  rotate_left
  · show Act.put _ (some 43) _ = _
    simp only [Act.put, List.setIfInBounds_toArray, List.set_cons_zero, List.set_cons_succ, i64_w, i32_w]
    rfl
  refine one_ (i := 3) (N := some 44) #[true, true, true, true, false] rfl rfl (by kernel_rfl) (by decide) (fun K hK => ?_)
  refine goes_ Try.func13 (by kernel_rfl) rfl #[.agg #[.int .i64 a0_0, .slice A3_ l0_1.length c3_], .agg #[.int .i64 a0_0, .slice A5_ l0_1.length c5_]] (by rfl) rfl rfl (by (try simp only [List.map_toArray, List.map_cons, List.map_nil]); first | done | rfl | (simp only [List.length_drop, List.length_take]; rfl)) ?_
  with_reducible refine (laws_eqTable.calls k _ _ _ _ _ _ _ _ _ _ (Kd.C_below (Kd.R_reads' F3.out).2.2 (by repeat (first | with_reducible exact Below.refl _ _ | with_reducible apply below_alloc | with_reducible refine below_set ?_ (Nat.le_refl _) | with_reducible apply pw_below_drewN | with_reducible apply below_drew1))) (Kd.R_reads' F3.out).2.1 (Kd.C_below (Kd.R_reads' F5.out).2.2 (by repeat (first | with_reducible exact Below.refl _ _ | with_reducible apply below_alloc | with_reducible refine below_set ?_ (Nat.le_refl _) | with_reducible apply pw_below_drewN | with_reducible apply below_drew1))) (Kd.R_reads' F5.out).2.1 He_eq_x0.out).mono ?_
  rintro e w8 ⟨rfl, hb⟩
  refine ⟨_, rfl, ?_⟩
  have HW := Aside0.mk (below_step (w := w7) (by repeat (first | with_reducible exact Below.refl _ _ | with_reducible apply below_alloc | with_reducible refine below_set ?_ (Nat.le_refl _) | with_reducible apply pw_below_drewN | with_reducible apply below_drew1)) hb)
  have HZ8 : Aside0 (w7.heap.size ≤ w8.heap.size) := ⟨HW.out.size⟩
  replace HB := Aside0.mk (below_step HB.out HW.out)
  replace F1 := Aside0.mk (Kd.R_below F1.out HW.out)
  replace F2 := Aside0.mk (Kd.R_below F2.out HW.out)
  replace F3 := Aside0.mk (Kd.R_below F3.out HW.out)
  replace F4 := Aside0.mk (Kd.R_below F4.out HW.out)
  replace BK_aT := Aside0.mk (blk_below BK_aT.out HW.out)
  replace BK_x0 := Aside0.mk (blk_below BK_x0.out HW.out)
  clear hb HW
  refine hK.out _ _ ⟨(blk_cell BK_x0.out 0).trans rfl, (blk_cell BK_x0.out 1).trans rfl, (blk_cell BK_aT.out 0).trans rfl, (blk_cell BK_aT.out 1).trans rfl⟩ (fun hHeld => ?_)
  clear hK K
  refine norm_ (a' := ?_) ?_ ?_
  rotate_left
  · show Act.put _ (some 44) _ = _
    simp only [Act.put, List.setIfInBounds_toArray, List.set_cons_zero, List.set_cons_succ, i64_w, i32_w]
    rfl
  refine pure_ (i := 4) (N := some 45) (v := ?_) (a' := ?_) #[true, true, true, true, true] rfl rfl (by kernel_rfl) (fun _ _ _ h => h) (Or.inl ⟨by rfl, ?_⟩) ?_ ?_
  rotate_left
  · intro w'
    go_simp
    with_reducible rfl
  rotate_left
  · simp only [Act.put, List.setIfInBounds_toArray, List.set_cons_zero, List.set_cons_succ, i64_w, i32_w]
    rfl
  refine done_ (by kernel_rfl) ?_
  clear hHeld
  have czBK_aT_0 : w8.cell? ⟨w.heap.size, 0, none⟩ = some (.int .i64 a0_0) := (blk_cell BK_aT.out 0).trans rfl
  have czBK_aT_1 : w8.cell? ⟨w.heap.size, 1, none⟩ = some (.slice A0_1 l0_1.length c0_1) := (blk_cell BK_aT.out 1).trans rfl
  have czBK_x0_0 : w8.cell? ⟨w4.heap.size, 0, none⟩ = some (.int .i64 a0_0) := (blk_cell BK_x0.out 0).trans rfl
  have czBK_x0_1 : w8.cell? ⟨w4.heap.size, 1, none⟩ = some (.slice A3_ l0_1.length c3_) := (blk_cell BK_x0.out 1).trans rfl
  go_wp2_with fail
  refine (laws_markTable.calls k _ _ _ _ _ _ _ w _ (below_step HB.out (by repeat (first | with_reducible exact Below.refl _ _ | with_reducible apply below_alloc | with_reducible refine below_set ?_ (Nat.le_refl _) | with_reducible apply pw_below_drewN | with_reducible apply below_drew1))) (Kd.R_below F3.out (by repeat (first | with_reducible exact Below.refl _ _ | with_reducible apply below_alloc | with_reducible refine below_set ?_ (Nat.le_refl _) | with_reducible apply pw_below_drewN | with_reducible apply below_drew1))) He_mark_x0.out).mono ?_
  rintro e w9 ⟨rfl, hf_F3, hb, hk⟩
  clear czBK_aT_0 czBK_aT_1 czBK_x0_0 czBK_x0_1
  have HW := Aside0.mk ((Kept.of_below (w := w8) (by repeat (first | with_reducible exact Below.refl _ _ | with_reducible apply below_alloc | with_reducible refine below_set ?_ (Nat.le_refl _) | with_reducible apply pw_below_drewN | with_reducible apply below_drew1)) _).then_ hk (fun _ h_ => .inl h_))
  have HZ9 : Aside0 (w8.heap.size ≤ w9.heap.size) := ⟨HW.out.1⟩
  replace HB := Aside0.mk hb
  replace F1 := Aside0.mk (Kd.R_kept F1.out HW.out (fun k_ h1 h2 => by have z1_ := HZ1.out; have z2_ := HZ2.out; have z3_ := HZ3.out; have z4_ := HZ4.out; have z5_ := HZ5.out; have z6_ := HZ6.out; have z7_ := HZ7.out; have z8_ := HZ8.out; have zg0_ := HG_BK_aT.out; have zg1_ := HG_BK_x0.out; have zl0_ := HLO1.out; have zl1_ := HLO2.out; have zl2_ := HLO3.out; have zl3_ := HLO4.out; have zl4_ := HLO5.out; omega))
  replace F2 := Aside0.mk (Kd.R_kept F2.out HW.out (fun k_ h1 h2 => by have z1_ := HZ1.out; have z2_ := HZ2.out; have z3_ := HZ3.out; have z4_ := HZ4.out; have z5_ := HZ5.out; have z6_ := HZ6.out; have z7_ := HZ7.out; have z8_ := HZ8.out; have zg0_ := HG_BK_aT.out; have zg1_ := HG_BK_x0.out; have zl0_ := HLO1.out; have zl1_ := HLO2.out; have zl2_ := HLO3.out; have zl3_ := HLO4.out; have zl4_ := HLO5.out; omega))
  replace F4 := Aside0.mk (Kd.R_kept F4.out HW.out (fun k_ h1 h2 => by have z1_ := HZ1.out; have z2_ := HZ2.out; have z3_ := HZ3.out; have z4_ := HZ4.out; have z5_ := HZ5.out; have z6_ := HZ6.out; have z7_ := HZ7.out; have z8_ := HZ8.out; have zg0_ := HG_BK_aT.out; have zg1_ := HG_BK_x0.out; have zl0_ := HLO1.out; have zl1_ := HLO2.out; have zl2_ := HLO3.out; have zl3_ := HLO4.out; have zl4_ := HLO5.out; omega))
  replace BK_aT := Aside0.mk (blk_kept BK_aT.out HW.out (fun h2 => by have z1_ := HZ1.out; have z2_ := HZ2.out; have z3_ := HZ3.out; have z4_ := HZ4.out; have z5_ := HZ5.out; have z6_ := HZ6.out; have z7_ := HZ7.out; have z8_ := HZ8.out; have zg0_ := HG_BK_aT.out; have zg1_ := HG_BK_x0.out; have zl0_ := HLO1.out; have zl1_ := HLO2.out; have zl2_ := HLO3.out; have zl3_ := HLO4.out; have zl4_ := HLO5.out; omega))
  replace BK_x0 := Aside0.mk (blk_kept BK_x0.out HW.out (fun h2 => by have z1_ := HZ1.out; have z2_ := HZ2.out; have z3_ := HZ3.out; have z4_ := HZ4.out; have z5_ := HZ5.out; have z6_ := HZ6.out; have z7_ := HZ7.out; have z8_ := HZ8.out; have zg0_ := HG_BK_aT.out; have zg1_ := HG_BK_x0.out; have zl0_ := HLO1.out; have zl1_ := HLO2.out; have zl2_ := HLO3.out; have zl3_ := HLO4.out; have zl4_ := HLO5.out; omega))
  replace F3 := Aside0.mk (Own.R_ok hf_F3 F3.out.1)
  have HQ := Aside0.mk (Kd.R_reads' F3.out).1
  rw [HQ.out] at F3
  rw [HQ.out] at BK_x0
  clear HQ
  clear hb hk HW hf_F3
  have czBK_aT_0 : w9.cell? ⟨w.heap.size, 0, none⟩ = some (.int .i64 a0_0) := (blk_cell BK_aT.out 0).trans rfl
  have czBK_aT_1 : w9.cell? ⟨w.heap.size, 1, none⟩ = some (.slice A0_1 l0_1.length c0_1) := (blk_cell BK_aT.out 1).trans rfl
  have czBK_x0_0 : w9.cell? ⟨w4.heap.size, 0, none⟩ = some (.int .i64 a0_0) := (blk_cell BK_x0.out 0).trans rfl
  have czBK_x0_1 : w9.cell? ⟨w4.heap.size, 1, none⟩ = some (.slice A3_ nx0_1.length c3_) := (blk_cell BK_x0.out 1).trans rfl
  go_wp2_with fail
  refine (laws_eqIntS.calls k _ _ _ _ _ _ _ _ (Kd.C_below (Kd.R_reads' F4.out).2.2 (by repeat (first | with_reducible exact Below.refl _ _ | with_reducible apply below_alloc | with_reducible refine below_set ?_ (Nat.le_refl _) | with_reducible apply pw_below_drewN | with_reducible apply below_drew1))) (Kd.R_reads' F4.out).2.1 (Kd.C_below (Kd.R_reads' F2.out).2.2 (by repeat (first | with_reducible exact Below.refl _ _ | with_reducible apply below_alloc | with_reducible refine below_set ?_ (Nat.le_refl _) | with_reducible apply pw_below_drewN | with_reducible apply below_drew1))) (Kd.R_reads' F2.out).2.1 He_eq_w0.out).mono ?_
  rintro e _ ⟨rfl, ⟨nd202_, rfl⟩⟩
  go_wp2_with fail
  refine (laws_markIntS.calls k _ _ _ _ _ _ w _ (below_step HB.out (by repeat (first | with_reducible exact Below.refl _ _ | with_reducible apply below_alloc | with_reducible refine below_set ?_ (Nat.le_refl _) | with_reducible apply pw_below_drewN | with_reducible apply below_drew1))) (Kd.R_below F4.out (by repeat (first | with_reducible exact Below.refl _ _ | with_reducible apply below_alloc | with_reducible refine below_set ?_ (Nat.le_refl _) | with_reducible apply pw_below_drewN | with_reducible apply below_drew1))) He_mark_g0.out).mono ?_
  rintro e w10 ⟨rfl, hf_F4, hb, hk⟩
  clear czBK_aT_0 czBK_aT_1 czBK_x0_0 czBK_x0_1
  have HW := Aside0.mk ((Kept.of_below (w := w9) (by repeat (first | with_reducible exact Below.refl _ _ | with_reducible apply below_alloc | with_reducible refine below_set ?_ (Nat.le_refl _) | with_reducible apply pw_below_drewN | with_reducible apply below_drew1)) _).then_ hk (fun _ h_ => .inl h_))
  have HZ10 : Aside0 (w9.heap.size ≤ w10.heap.size) := ⟨HW.out.1⟩
  replace HB := Aside0.mk hb
  replace F1 := Aside0.mk (Kd.R_kept F1.out HW.out (fun k_ h1 h2 => by have z1_ := HZ1.out; have z2_ := HZ2.out; have z3_ := HZ3.out; have z4_ := HZ4.out; have z5_ := HZ5.out; have z6_ := HZ6.out; have z7_ := HZ7.out; have z8_ := HZ8.out; have z9_ := HZ9.out; have zg0_ := HG_BK_aT.out; have zg1_ := HG_BK_x0.out; have zl0_ := HLO1.out; have zl1_ := HLO2.out; have zl2_ := HLO3.out; have zl3_ := HLO4.out; have zl4_ := HLO5.out; omega))
  replace F2 := Aside0.mk (Kd.R_kept F2.out HW.out (fun k_ h1 h2 => by have z1_ := HZ1.out; have z2_ := HZ2.out; have z3_ := HZ3.out; have z4_ := HZ4.out; have z5_ := HZ5.out; have z6_ := HZ6.out; have z7_ := HZ7.out; have z8_ := HZ8.out; have z9_ := HZ9.out; have zg0_ := HG_BK_aT.out; have zg1_ := HG_BK_x0.out; have zl0_ := HLO1.out; have zl1_ := HLO2.out; have zl2_ := HLO3.out; have zl3_ := HLO4.out; have zl4_ := HLO5.out; omega))
  replace F3 := Aside0.mk (Kd.R_kept F3.out HW.out (fun k_ h1 h2 => by have z1_ := HZ1.out; have z2_ := HZ2.out; have z3_ := HZ3.out; have z4_ := HZ4.out; have z5_ := HZ5.out; have z6_ := HZ6.out; have z7_ := HZ7.out; have z8_ := HZ8.out; have z9_ := HZ9.out; have zg0_ := HG_BK_aT.out; have zg1_ := HG_BK_x0.out; have zl0_ := HLO1.out; have zl1_ := HLO2.out; have zl2_ := HLO3.out; have zl3_ := HLO4.out; have zl4_ := HLO5.out; omega))
  replace BK_aT := Aside0.mk (blk_kept BK_aT.out HW.out (fun h2 => by have z1_ := HZ1.out; have z2_ := HZ2.out; have z3_ := HZ3.out; have z4_ := HZ4.out; have z5_ := HZ5.out; have z6_ := HZ6.out; have z7_ := HZ7.out; have z8_ := HZ8.out; have z9_ := HZ9.out; have zg0_ := HG_BK_aT.out; have zg1_ := HG_BK_x0.out; have zl0_ := HLO1.out; have zl1_ := HLO2.out; have zl2_ := HLO3.out; have zl3_ := HLO4.out; have zl4_ := HLO5.out; omega))
  replace BK_x0 := Aside0.mk (blk_kept BK_x0.out HW.out (fun h2 => by have z1_ := HZ1.out; have z2_ := HZ2.out; have z3_ := HZ3.out; have z4_ := HZ4.out; have z5_ := HZ5.out; have z6_ := HZ6.out; have z7_ := HZ7.out; have z8_ := HZ8.out; have z9_ := HZ9.out; have zg0_ := HG_BK_aT.out; have zg1_ := HG_BK_x0.out; have zl0_ := HLO1.out; have zl1_ := HLO2.out; have zl2_ := HLO3.out; have zl3_ := HLO4.out; have zl4_ := HLO5.out; omega))
  replace F4 := Aside0.mk (Own.R_ok hf_F4 F4.out.1)
  have HQ := Aside0.mk (Kd.R_reads' F4.out).1
  rw [HQ.out] at F4
  (try rw [HQ.out])
  clear HQ
  clear hb hk HW hf_F4
  have czBK_aT_0 : w10.cell? ⟨w.heap.size, 0, none⟩ = some (.int .i64 a0_0) := (blk_cell BK_aT.out 0).trans rfl
  have czBK_aT_1 : w10.cell? ⟨w.heap.size, 1, none⟩ = some (.slice A0_1 l0_1.length c0_1) := (blk_cell BK_aT.out 1).trans rfl
  have czBK_x0_0 : w10.cell? ⟨w4.heap.size, 0, none⟩ = some (.int .i64 a0_0) := (blk_cell BK_x0.out 0).trans rfl
  have czBK_x0_1 : w10.cell? ⟨w4.heap.size, 1, none⟩ = some (.slice A3_ nx0_1.length c3_) := (blk_cell BK_x0.out 1).trans rfl
  go_wp2_with fail
  refine (laws_heldIntS.calls k _ _ _ _ _ _ (Kd.C_below (Kd.R_reads' F4.out).2.2 (by repeat (first | with_reducible exact Below.refl _ _ | with_reducible apply below_alloc | with_reducible refine below_set ?_ (Nat.le_refl _) | with_reducible apply pw_below_drewN | with_reducible apply below_drew1))) (Kd.R_reads' F4.out).2.1 He_held_g0.out).mono ?_
  rintro e _ ⟨rfl, ⟨nh227_, rfl⟩⟩
  go_wp2_with fail
  refine (laws_toTable.calls k _ _ _ _ _ _ _ (Kd.C_below HR0_1.out (below_step HB.out (by repeat (first | with_reducible exact Below.refl _ _ | with_reducible apply below_alloc | with_reducible refine below_set ?_ (Nat.le_refl _) | with_reducible apply pw_below_drewN | with_reducible apply below_drew1)))) HC0_1.out He_to_aT.out).mono ?_
  rintro e w11 ⟨vt228_0, rfl, hf6, hb⟩
  clear czBK_aT_0 czBK_aT_1 czBK_x0_0 czBK_x0_1
  have HN := Aside0.mk HB.out.size
  have HW := Aside0.mk (below_step (w := w10) (by repeat (first | with_reducible exact Below.refl _ _ | with_reducible apply below_alloc | with_reducible refine below_set ?_ (Nat.le_refl _) | with_reducible apply pw_below_drewN | with_reducible apply below_drew1)) hb)
  have HZ11 : Aside0 (w10.heap.size ≤ w11.heap.size) := ⟨HW.out.size⟩
  replace HB := Aside0.mk (below_step HB.out HW.out)
  replace F1 := Aside0.mk (Kd.R_below F1.out HW.out)
  replace F2 := Aside0.mk (Kd.R_below F2.out HW.out)
  replace F3 := Aside0.mk (Kd.R_below F3.out HW.out)
  replace F4 := Aside0.mk (Kd.R_below F4.out HW.out)
  replace BK_aT := Aside0.mk (blk_below BK_aT.out HW.out)
  replace BK_x0 := Aside0.mk (blk_below BK_x0.out HW.out)
  obtain ⟨lo6_, F6, HLO6⟩ := Own.R_iv (wN := w10) rfl hf6 HN.out (by repeat (first | with_reducible exact Below.refl _ _ | with_reducible apply below_alloc | with_reducible refine below_set ?_ (Nat.le_refl _) | with_reducible apply pw_below_drewN | with_reducible apply below_drew1)) hb
  obtain ⟨A6_, c6_, e6_⟩ := Kd.R_slice F6.out
  subst e6_
  clear hb HW HN hf6
  have czBK_aT_0 : w11.cell? ⟨w.heap.size, 0, none⟩ = some (.int .i64 a0_0) := (blk_cell BK_aT.out 0).trans rfl
  have czBK_aT_1 : w11.cell? ⟨w.heap.size, 1, none⟩ = some (.slice A0_1 l0_1.length c0_1) := (blk_cell BK_aT.out 1).trans rfl
  have czBK_x0_0 : w11.cell? ⟨w4.heap.size, 0, none⟩ = some (.int .i64 a0_0) := (blk_cell BK_x0.out 0).trans rfl
  have czBK_x0_1 : w11.cell? ⟨w4.heap.size, 1, none⟩ = some (.slice A3_ nx0_1.length c3_) := (blk_cell BK_x0.out 1).trans rfl
  go_wp2_with fail
  refine (impl_SymmetricValues.calls k _ _ _ _ _ _ _ (Kd.C_below (Kd.R_reads' F6.out).2.2 (by repeat (first | with_reducible exact Below.refl _ _ | with_reducible apply below_alloc | with_reducible refine below_set ?_ (Nat.le_refl _) | with_reducible apply pw_below_drewN | with_reducible apply below_drew1))) (Kd.R_reads' F6.out).2.1 He_impl.out).mono ?_
  rintro e w12 ⟨vh0_0, rfl, hf7, hb⟩
  clear czBK_aT_0 czBK_aT_1 czBK_x0_0 czBK_x0_1
  have HN := Aside0.mk HB.out.size
  have HW := Aside0.mk (below_step (w := w11) (by repeat (first | with_reducible exact Below.refl _ _ | with_reducible apply below_alloc | with_reducible refine below_set ?_ (Nat.le_refl _) | with_reducible apply pw_below_drewN | with_reducible apply below_drew1)) hb)
  have HZ12 : Aside0 (w11.heap.size ≤ w12.heap.size) := ⟨HW.out.size⟩
  replace HB := Aside0.mk (below_step HB.out HW.out)
  replace F1 := Aside0.mk (Kd.R_below F1.out HW.out)
  replace F2 := Aside0.mk (Kd.R_below F2.out HW.out)
  replace F3 := Aside0.mk (Kd.R_below F3.out HW.out)
  replace F4 := Aside0.mk (Kd.R_below F4.out HW.out)
  replace F6 := Aside0.mk (Kd.R_below F6.out HW.out)
  replace BK_aT := Aside0.mk (blk_below BK_aT.out HW.out)
  replace BK_x0 := Aside0.mk (blk_below BK_x0.out HW.out)
  obtain ⟨lo7_, F7, HLO7⟩ := Own.R_iv (wN := w11) rfl hf7 HN.out (by repeat (first | with_reducible exact Below.refl _ _ | with_reducible apply below_alloc | with_reducible refine below_set ?_ (Nat.le_refl _) | with_reducible apply pw_below_drewN | with_reducible apply below_drew1)) hb
  obtain ⟨A7_, c7_, e7_⟩ := Kd.R_slice F7.out
  subst e7_
  clear hb HW HN hf7
  have czBK_aT_0 : w12.cell? ⟨w.heap.size, 0, none⟩ = some (.int .i64 a0_0) := (blk_cell BK_aT.out 0).trans rfl
  have czBK_aT_1 : w12.cell? ⟨w.heap.size, 1, none⟩ = some (.slice A0_1 l0_1.length c0_1) := (blk_cell BK_aT.out 1).trans rfl
  have czBK_x0_0 : w12.cell? ⟨w4.heap.size, 0, none⟩ = some (.int .i64 a0_0) := (blk_cell BK_x0.out 0).trans rfl
  have czBK_x0_1 : w12.cell? ⟨w4.heap.size, 1, none⟩ = some (.slice A3_ nx0_1.length c3_) := (blk_cell BK_x0.out 1).trans rfl
  go_wp2_with fail
  refine (laws_eqIntS.calls k _ _ _ _ _ _ _ _ (Kd.C_below (Kd.R_reads' F7.out).2.2 (by repeat (first | with_reducible exact Below.refl _ _ | with_reducible apply below_alloc | with_reducible refine below_set ?_ (Nat.le_refl _) | with_reducible apply pw_below_drewN | with_reducible apply below_drew1))) (Kd.R_reads' F7.out).2.1 (Kd.C_below (Kd.R_reads' F2.out).2.2 (by repeat (first | with_reducible exact Below.refl _ _ | with_reducible apply below_alloc | with_reducible refine below_set ?_ (Nat.le_refl _) | with_reducible apply pw_below_drewN | with_reducible apply below_drew1))) (Kd.R_reads' F2.out).2.1 He_eq_w0.out).mono ?_
  rintro e _ ⟨rfl, ⟨nd275_, rfl⟩⟩
  go_wp2_with fail
  refine (laws_heldIntS.calls k _ _ _ _ _ _ (Kd.C_below (Kd.R_reads' F4.out).2.2 (by repeat (first | with_reducible exact Below.refl _ _ | with_reducible apply below_alloc | with_reducible refine below_set ?_ (Nat.le_refl _) | with_reducible apply pw_below_drewN | with_reducible apply below_drew1))) (Kd.R_reads' F4.out).2.1 He_held_g0.out).mono ?_
  rintro e _ ⟨rfl, ⟨nh278_, rfl⟩⟩
  go_wp2_with fail
  go_ret
  exact ⟨rfl, below_step HB.out (by repeat (first | with_reducible exact Below.refl _ _ | with_reducible apply below_alloc | with_reducible refine below_set ?_ (Nat.le_refl _) | with_reducible apply pw_below_drewN | with_reducible apply below_drew1))⟩
end Go.Proofs.Ytnccomklpfbcpaa.P
end

section
/- Two inputs of a table exchanged: the program's way through an order, and the values of a symmetric table. -/
namespace Go.Proofs.Ytnccomklpfbcpaa.A
open Go.RowKit Go.Proofs.YtnccomklpfbcpaaW.PrintWords Go.Proofs.YtnccomklpfbcpaaW.PrintLast Go.Proofs.YtnccomklpfbcpaaW.PrintMore Go.Proofs.Ytnccomklpfbcpaa.P Go.Proofs.Ytnccomklpfbcpaa.T
set_option linter.unusedVariables false
set_option linter.unusedSimpArgs false
theorem slsame_loop : ∀ (us us' pre pre' : List Int), us.length = us'.length → pre.length = pre'.length → (pre ++ us).length ≤ maxLen →
    Ev (fun k => slices_Equal_int_int.l0 k (pre ++ us) (pre' ++ us') ((pre ++ us).length : Int) (pre.length : Int)) (decide (us = us')) := by
  intro us
  induction us with
  | nil =>
    intro us' pre pre' h1 h2 h3
    cases us' with
    | nil => exact Ev.step (fun k => slices_Equal_int_int.l0.eq_2 ..) (ev_neg (not_lt_end _) (ev_const (by simp)))
    | cons _ _ => simp at h1
  | cons a us ih =>
    intro us' pre pre' h1 h2 h3
    cases us' with
    | nil => simp at h1
    | cons b us' =>
      have hl : (pre.length : Int) < ((pre' ++ b :: us').length : Int) := by rw [h2]; exact lt_mid _ _ _
      refine Ev.step (fun k => slices_Equal_int_int.l0.eq_2 ..) (ev_pos (lt_mid _ _ _) (ev_pos (by omega) (ev_pos (lt_mid _ _ _) (ev_pos hl ?_))))
      have ea : rd (pre ++ a :: us) (pre.length : Int) = a := by unfold rd; exact getD_mid _ _ _ _
      have eb : rd (pre' ++ b :: us') (pre.length : Int) = b := by rw [h2]; unfold rd; exact getD_mid _ _ _ _
      rw [ea, eb, next_mid _ _ _ h3]
      by_cases h : a = b
      · subst h
        have := ih us' (pre ++ [a]) (pre' ++ [a]) (by simpa using h1) (by simp [h2]) (by rw [← assoc_mid]; exact h3)
        rw [← assoc_mid, ← assoc_mid] at this
        rw [show decide (a :: us = a :: us') = decide (us = us') by simp]
        exact ev_pos rfl this
      · rw [show decide (a :: us = b :: us') = false from decide_eq_false (fun e => h (List.cons.inj e).1)]
        exact ev_neg h (ev_const rfl)
theorem slEqual (us us' : List Int) (h : us.length ≤ maxLen) : Ev (fun k => slices_Equal_int_int.f k us us') (decide (us = us')) := by
  unfold slices_Equal_int_int.f
  by_cases hl : us.length = us'.length
  · exact ev_pos (by omega) (slsame_loop us us' [] [] hl rfl h)
  · rw [show decide (us = us') = false from decide_eq_false (fun e => hl (by rw [e]))]
    exact ev_neg (by omega) (ev_const rfl)
theorem l1same_loop : ∀ (us us' pre pre' : List Int), us.length = us'.length → pre.length = pre'.length → (pre ++ us).length ≤ maxLen →
    Ev (fun k => spec_l1Same.l0 k (pre ++ us) (pre' ++ us') ((pre ++ us).length : Int) (pre.length : Int)) (decide (us = us')) := by
  intro us
  induction us with
  | nil =>
    intro us' pre pre' h1 h2 h3
    cases us' with
    | nil => exact Ev.step (fun k => spec_l1Same.l0.eq_2 ..) (ev_neg (not_lt_end _) (ev_const (by simp)))
    | cons _ _ => simp at h1
  | cons a us ih =>
    intro us' pre pre' h1 h2 h3
    cases us' with
    | nil => simp at h1
    | cons b us' =>
      have hl : (pre.length : Int) < ((pre' ++ b :: us').length : Int) := by rw [h2]; exact lt_mid _ _ _
      refine Ev.step (fun k => spec_l1Same.l0.eq_2 ..) (ev_pos (lt_mid _ _ _) (ev_pos (by omega) (ev_pos (lt_mid _ _ _) (ev_pos hl ?_))))
      have ea : rd (pre ++ a :: us) (pre.length : Int) = a := by unfold rd; exact getD_mid _ _ _ _
      have eb : rd (pre' ++ b :: us') (pre.length : Int) = b := by rw [h2]; unfold rd; exact getD_mid _ _ _ _
      rw [ea, eb, next_mid _ _ _ h3]
      by_cases h : a = b
      · subst h
        have := ih us' (pre ++ [a]) (pre' ++ [a]) (by simpa using h1) (by simp [h2]) (by rw [← assoc_mid]; exact h3)
        rw [← assoc_mid, ← assoc_mid] at this
        rw [show decide (a :: us = a :: us') = decide (us = us') by simp]
        exact ev_pos rfl this
      · rw [show decide (a :: us = b :: us') = false from decide_eq_false (fun e => h (List.cons.inj e).1)]
        exact ev_neg h (ev_const rfl)
theorem l1Same (us us' : List Int) (h : us.length ≤ maxLen) : Ev (fun k => spec_l1Same.f k us us') (decide (us = us')) := by
  unfold spec_l1Same.f
  by_cases hl : us.length = us'.length
  · exact ev_pos (by omega) (l1same_loop us us' [] [] hl rfl h)
  · rw [show decide (us = us') = false from decide_eq_false (fun e => hl (by rw [e]))]
    exact ev_neg (by omega) (ev_const rfl)

/-- The index that an order of the inputs makes of x, from place j on. -/
def ordGo : Int → List Int → Int → Int → Int
  | _, [], _, y => y
  | j, i :: o, x, y => ordGo (j + 1) o x (Go.bits .or .i64 y (shl .i64 (Go.bits .and .i64 (shr .i64 x j) 1) i))
/-- The order in which input i and the one ahead of it have each other's number. -/
def ordS (n i : Nat) : List Int := ((iota 0 n).set (i - 1) (i : Int)).set i ((i : Int) - 1)
def swIx (x i : Nat) : Int := (spec_ttSwap.f (x : Int) ((i : Int) - 1) (i : Int)).getD 0
def swOkB (n i x : Nat) : Bool := match spec_ttSwap.f (x : Int) ((i : Int) - 1) (i : Int) with
  | some t => decide (0 ≤ t) && decide (t < ((2 ^ n : Nat) : Int)) && (ordGo 0 (ordS n i) (x : Int) 0 == t)
  | none => false
theorem sw_all : ∀ n ∈ List.range 5, ∀ i ∈ List.range n, 1 ≤ i → ∀ x ∈ List.range (2 ^ n), swOkB n i x = true := by decide +kernel
theorem sw_at {n i x : Nat} (hn : n ≤ 4) (hi : i < n) (h1 : 1 ≤ i) (hx : x < 2 ^ n) : ∃ t, spec_ttSwap.f (x : Int) ((i : Int) - 1) (i : Int) = some t ∧ swIx x i = t ∧ 0 ≤ t ∧ t < ((2 ^ n : Nat) : Int) ∧ ordGo 0 (ordS n i) (x : Int) 0 = t := by
  have h := sw_all n (List.mem_range.2 (by omega)) i (List.mem_range.2 hi) h1 x (List.mem_range.2 hx)
  unfold swOkB at h
  unfold swIx
  cases hh : spec_ttSwap.f (x : Int) ((i : Int) - 1) (i : Int) with
  | none => rw [hh] at h; simp at h
  | some t =>
    rw [hh] at h
    simp only [Bool.and_eq_true, decide_eq_true_eq, beq_iff_eq] at h
    exact ⟨t, rfl, rfl, h.1.1, h.1.2, h.2⟩
def swL (l : List Int) (i : Nat) : List Int := (List.range l.length).map (fun x => rd l (swIx x i))
theorem ord_mem {n i : Nat} (h1 : 1 ≤ i) (z : Int) (h : z ∈ ordS n i) : 0 ≤ z := by
  unfold ordS at h
  rcases List.mem_or_eq_of_mem_set h with h | h
  · rcases List.mem_or_eq_of_mem_set h with h | h
    · have : ∀ (n : Nat) (m : Int), 0 ≤ m → z ∈ iota m n → 0 ≤ z := by
        intro n
        induction n with
        | zero => intro m _ h; simp [iota] at h
        | succ n ih =>
          intro m hm h
          rcases List.mem_cons.1 h with h | h
          · omega
          · exact ih (m + 1) (by omega) h
      exact this n 0 (by omega) h
    · omega
  · omega
theorem reord_in (order l : List Int) (a x : Int) (len0 : Int) (ho : ∀ z ∈ order, 0 ≤ z) (hm : order.length ≤ 100) {r : Int × List Int} (out : List Int) : ∀ (suf pre : List Int) (y : Int), order = pre ++ suf →
    Ev (fun k => if 0 ≤ ordGo (pre.length : Int) suf x y then (if ordGo (pre.length : Int) suf x y < (l.length : Int) then (if 0 ≤ x then (if x < (out.length : Int) then (impl_reordered.l0 k order len0 (wrap64 (x + 1)) a l a (out.set (x : Int).toNat (rd l (ordGo (pre.length : Int) suf x y)))) else none) else none) else none) else none) r →
    Ev (fun k => impl_reordered.l1 k order x y len0 x order (order.length : Int) (pre.length : Int) a l a out) r := by
  intro suf
  induction suf with
  | nil =>
    intro pre y hl h
    subst hl
    refine Ev.step (fun k => impl_reordered.l1.eq_2 ..) (ev_neg (not_lt_end _) ?_)
    exact h
  | cons z suf ih =>
    intro pre y hl h
    subst hl
    have hz := ho z (by simp)
    have hmx : (pre ++ z :: suf).length ≤ maxLen := by simp only [maxLen]; omega
    refine Ev.step (fun k => impl_reordered.l1.eq_2 ..) (ev_pos (lt_mid _ _ _) (ev_pos (by omega) (ev_pos (lt_mid _ _ _) ?_)))
    rw [rd_mid, next_mid _ _ _ hmx]
    refine ev_pos hz ?_
    refine ih (pre ++ [z]) _ (assoc_mid _ _ _) ?_
    rw [show ((pre ++ [z]).length : Int) = (pre.length : Int) + 1 by simp]
    exact h
theorem reord_out (n i : Nat) (hn : n ≤ 4) (hi : i < n) (h1 : 1 ≤ i) (l : List Int) (hl : l.length = 2 ^ n) (a : Int) : ∀ (d x : Nat), x + d = l.length →
    Ev (fun k => impl_reordered.l0 k (ordS n i) (l.length : Int) (x : Int) a l a ((List.range x).map (fun x => rd l (swIx x i)) ++ List.replicate d 0)) (a, swL l i) := by
  have h16 : l.length ≤ 16 := by
    rw [hl]
    have hc : n = 0 ∨ n = 1 ∨ n = 2 ∨ n = 3 ∨ n = 4 := by omega
    rcases hc with rfl | rfl | rfl | rfl | rfl <;> decide
  have hoL : (ordS n i).length = n := by unfold ordS; rw [List.length_set, List.length_set, iota_length]
  intro d
  induction d with
  | zero =>
    intro x hx
    obtain rfl : x = l.length := by omega
    refine Ev.step (fun k => impl_reordered.l0.eq_2 ..) (ev_neg (by omega) (ev_const ?_))
    simp [swL]
  | succ d ih =>
    intro x hx
    obtain ⟨t, q1, q2, q3, q4, q5⟩ := sw_at hn hi h1 (x := x) (by omega)
    refine Ev.step (fun k => impl_reordered.l0.eq_2 ..) (ev_pos (by omega) ?_)
    have hin := reord_in (ordS n i) l a (x : Int) (l.length : Int) (fun z hz => ord_mem h1 z hz) (by omega) (r := (a, swL l i)) ((List.range x).map (fun x => rd l (swIx x i)) ++ List.replicate (d + 1) 0) (ordS n i) [] 0 rfl
    simp only [List.length_nil, Int.natCast_zero, Int.cast_ofNat_Int] at hin
    refine hin ?_
    rw [q5]
    refine ev_pos q3 (ev_pos (by rw [hl]; exact q4) (ev_pos (by omega) (ev_pos (by simp; omega) ?_)))
    rw [wrap_id (by omega) (by omega)]
    have e1 : (((List.range x).map (fun x => rd l (swIx x i)) ++ List.replicate (d + 1) 0).set ((x : Int)).toNat (rd l t)) = (List.range (x + 1)).map (fun x => rd l (swIx x i)) ++ List.replicate d 0 := by
      rw [Int.toNat_natCast, List.set_append_right _ _ (by simp)]
      simp only [List.length_map, List.length_range, Nat.sub_self, List.replicate_succ, List.set_cons_zero]
      rw [List.range_succ, List.map_append, List.append_assoc, ← q2]
      rfl
    rw [e1]
    have := ih (x + 1) (by omega)
    rw [show ((x + 1 : Nat) : Int) = (x : Int) + 1 by omega] at this
    exact this
theorem swapped_loop (n i : Nat) (hn : n ≤ 4) (hi : i < n) (h1 : 1 ≤ i) (l : List Int) (hl : l.length = 2 ^ n) : ∀ (d c : Nat), c + d = n →
    Ev (fun k => impl_swapped.l0 k ((i : Int) - 1) (i : Int) (iota 0 c) (c : Int) (n : Int) l) ((n : Int), swL l i) := by
  have h16 : l.length ≤ 16 := by
    rw [hl]
    have hc : n = 0 ∨ n = 1 ∨ n = 2 ∨ n = 3 ∨ n = 4 := by omega
    rcases hc with rfl | rfl | rfl | rfl | rfl <;> decide
  intro d
  induction d with
  | zero =>
    intro c hc
    obtain rfl : c = n := by omega
    have hlen := iota_length c 0
    refine Ev.step (fun k => impl_swapped.l0.eq_2 ..) (ev_neg (by omega) (ev_pos (by omega) (ev_pos (by omega) (ev_pos (by omega) (ev_pos (by omega) ?_)))))
    have e1 : (((iota 0 c).set ((i : Int) - 1).toNat (i : Int)).set ((i : Int)).toNat ((i : Int) - 1)) = ordS c i := by
      unfold ordS
      rw [show ((i : Int) - 1).toNat = i - 1 by omega, Int.toNat_natCast]
    rw [e1]
    refine ev_bind (a := ((c : Int), swL l i)) ?_ (ev_const rfl)
    unfold impl_reordered.f
    refine ev_pos (by omega) (ev_pos (by omega) (ev_bindc rfl ?_))
    have := reord_out c i hn hi h1 l hl (c : Int) l.length 0 (by omega)
    simpa using this
  | succ d ih =>
    intro c hc
    have hlen := iota_length c 0
    refine Ev.step (fun k => impl_swapped.l0.eq_2 ..) (ev_pos (by omega) (ev_pos (by omega) ?_))
    have := ih (c + 1) (by omega)
    have e1 : ∀ (n : Nat) (m : Int), iota m (n + 1) = iota m n ++ [m + (n : Int)] := by
      intro n
      induction n with
      | zero => intro m; simp [iota]
      | succ n ih =>
        intro m
        rw [iota, ih (m + 1), iota, List.cons_append]
        congr 2
        simp; omega
    rw [e1, Int.zero_add] at this
    rw [wrap_id (by omega) (by omega)]
    rw [show ((c + 1 : Nat) : Int) = (c : Int) + 1 by omega] at this
    exact this
theorem implSwapped (n i : Nat) (hn : n ≤ 4) (hi : i < n) (h1 : 1 ≤ i) (l : List Int) (hl : l.length = 2 ^ n) : Ev (fun k => impl_swapped.f k (n : Int) l ((i : Int) - 1) (i : Int)) ((n : Int), swL l i) := by
  unfold impl_swapped.f
  exact swapped_loop n i hn hi h1 l hl n 0 (by omega)
end Go.Proofs.Ytnccomklpfbcpaa.A
end

section
/- FnExactSymmetricValues: the program's SymmetricValues returns what the reference's returns, for all tables that are not greater than 2^20 numbers (as the law's own guard says). -/
namespace Go.Proofs.Ytnccomklpfbcpaa.A
open Go.RowKit Go.Proofs.YtnccomklpfbcpaaW.PrintWords Go.Proofs.YtnccomklpfbcpaaW.PrintLast Go.Proofs.YtnccomklpfbcpaaW.PrintMore Go.Proofs.Ytnccomklpfbcpaa.P Go.Proofs.Ytnccomklpfbcpaa.T
set_option linter.unusedVariables false
set_option linter.unusedSimpArgs false
theorem TabOk.nat {a : Int} {l : List Int} (h : TabOk a l) : ∃ n : Nat, a = (n : Int) ∧ n ≤ 4 ∧ l.length = 2 ^ n ∧ l.length ≤ 16 ∧ 1 ≤ l.length := by
  obtain ⟨⟨h0, h4⟩, hl, _⟩ := h
  refine ⟨a.toNat, by omega, by omega, hl, ?_⟩
  have hc : a.toNat = 0 ∨ a.toNat = 1 ∨ a.toNat = 2 ∨ a.toNat = 3 ∨ a.toNat = 4 := by omega
  rcases hc with e | e | e | e | e <;> rw [e] at hl <;> simp at hl <;> omega
theorem specSwapped (n i : Nat) (hn : n ≤ 4) (hi : i < n) (h1 : 1 ≤ i) (l : List Int) (hl : l.length = 2 ^ n) (h16 : l.length ≤ 16) (hp : 1 ≤ l.length) : Ev (fun k => spec_ttSwapped.f k (n : Int) l ((i : Int) - 1) (i : Int)) ((n : Int), swL l i) := by
  unfold spec_ttSwapped.f
  refine ev_const ((if_pos ⟨⟨hp, h16⟩, ?_⟩).trans rfl)
  intro x hx
  obtain ⟨t, q1, _, q3, q4, _⟩ := sw_at hn hi h1 (x := x) (by rw [← hl]; exact List.mem_range.1 hx)
  unfold swOk
  rw [q1, hl]
  show (decide (0 ≤ t) && decide (t < ((2 ^ n : Nat) : Int))) = true
  rw [decide_eq_true q3, decide_eq_true q4]
  rfl
def symL (l : List Int) : Nat → Nat → Bool × Bool
  | 0, _ => (true, true)
  | d + 1, i => if swL l i = l then symL l d (i + 1) else (false, true)
theorem symL_two (l : List Int) : ∀ d i, (symL l d i).2 = true := by
  intro d
  induction d with
  | zero => intro i; rfl
  | succ d ih =>
    intro i
    unfold symL
    by_cases h : swL l i = l
    · rw [if_pos h]; exact ih _
    · rw [if_neg h]
theorem swL_len (l : List Int) (i : Nat) : (swL l i).length = l.length := by simp [swL]
def resIs (a : Int) (l : List Int) : Bool × Bool := if TabOk a l then symL l (a.toNat - 1) 1 else (false, false)
def symV (n : Nat) (l : List Int) : List Int := (List.range (n + 1)).map (fun j => rd l (((2 ^ j : Nat) : Int) - 1))
def resSymmetricValues (a : Int) (l : List Int) : List Int × Bool := if (resIs a l).1 = true then (symV a.toNat l, true) else ([], false)
theorem resIs_ok {a : Int} {l : List Int} (h : (resIs a l).1 = true) : TabOk a l := by
  unfold resIs at h
  by_cases hk : TabOk a l
  · exact hk
  · rw [if_neg hk] at h; simp at h
theorem resIs_two {a : Int} {l : List Int} (h : (resIs a l).1 = true) : (resIs a l).2 = true := by
  have hk := resIs_ok h
  unfold resIs
  rw [if_pos hk]
  exact symL_two _ _ _
theorem shlc {c : Nat} (h : c ≤ 4) : shl .i64 1 (c : Int) = ((2 ^ c : Nat) : Int) := shlT ⟨c, by omega⟩
theorem u64c {c : Nat} (h : c ≤ 4) : IntKind.u64.wrap (c : Int) = (c : Int) := u64T ⟨c, by omega⟩
theorem pow_in {c n : Nat} (h : c ≤ n) (hn : n ≤ 4) : 1 ≤ 2 ^ c ∧ 2 ^ c ≤ 2 ^ n ∧ 2 ^ n ≤ 16 := by
  refine ⟨Nat.one_le_two_pow, Nat.pow_le_pow_right (by omega) h, ?_⟩
  exact Nat.le_trans (Nat.pow_le_pow_right (by omega) hn) (by decide)
theorem symRS_ev (n : Nat) (hn : n ≤ 4) (l : List Int) (hl : l.length = 2 ^ n) (h16 : l.length ≤ 16) (hp : 1 ≤ l.length) : ∀ (d i : Nat), 1 ≤ i → (d = 0 ∨ i + d = n) → Ev (fun k => symRS k (n : Int) l d i) (symL l d i) := by
  intro d
  induction d with
  | zero => intro i h1 h; exact ev_const rfl
  | succ d ih =>
    intro i h1 h
    unfold symRS symL
    refine ev_bind (specSwapped n i hn (by omega) h1 l hl h16 hp) (ev_bind (l1Same (swL l i) l (by rw [swL_len]; simp only [maxLen]; omega)) ?_)
    by_cases he : swL l i = l
    · rw [if_pos he]
      exact ev_pos (by simpa using he) (ih (i + 1) (by omega) (by omega))
    · rw [if_neg he]
      exact ev_neg (by simpa using he) (ev_const rfl)
theorem specIs (a : Int) (l : List Int) (hm : l.length ≤ maxLen) : Ev (fun k => spec_IsSymmetric.f k a l) (resIs a l) := by
  unfold spec_IsSymmetric.f resIs
  by_cases h : TabOk a l
  · rw [if_pos h]
    refine ev_pos h ?_
    obtain ⟨n, rfl, hn, hl, h16, hp⟩ := h.nat
    rw [Int.toNat_natCast]
    exact symRS_ev n hn l hl h16 hp (n - 1) 1 (by omega) (by omega)
  · rw [if_neg h]
    exact ev_neg h (ev_bind (ttGood a l hm) (ev_neg (by simpa using h) (ev_const rfl)))
theorem specVals_loop (n : Nat) (hn : n ≤ 4) (l : List Int) (hl : l.length = 2 ^ n) : ∀ (d c : Nat), c + d = n + 1 →
    Ev (fun k => spec_SymmetricValues.l0 k ((List.range c).map (fun j => rd l (((2 ^ j : Nat) : Int) - 1))) (c : Int) (n : Int) l) (symV n l, true) := by
  intro d
  induction d with
  | zero =>
    intro c hc
    obtain rfl : c = n + 1 := by omega
    exact Ev.step (fun k => spec_SymmetricValues.l0.eq_2 ..) (ev_neg (by omega) (ev_const rfl))
  | succ d ih =>
    intro c hc
    have hc4 : c ≤ 4 := by omega
    obtain ⟨p1, p2, p3⟩ := pow_in (c := c) (n := n) (by omega) hn
    have hw : wrap64 (((2 ^ c : Nat) : Int) - 1) = ((2 ^ c : Nat) : Int) - 1 := wrap_id (by omega) (by omega)
    refine Ev.step (fun k => spec_SymmetricValues.l0.eq_2 ..) ?_
    try simp only [u64c hc4]
    simp only [shlc hc4, hw]
    refine ev_pos (by omega) (ev_pos (by omega) (ev_pos (by omega) (ev_pos (by rw [hl]; omega) (ev_pos (by simp; omega) ?_))))
    rw [wrap_id (by omega) (by omega)]
    have := ih (c + 1) (by omega)
    rw [List.range_succ, List.map_append, show ((c + 1 : Nat) : Int) = (c : Int) + 1 by omega] at this
    exact this
theorem specSymmetricValues (a : Int) (l : List Int) (hm : l.length ≤ maxLen) : Ev (fun k => spec_SymmetricValues.f k a l) (resSymmetricValues a l) := by
  unfold spec_SymmetricValues.f resSymmetricValues
  refine ev_bind (specIs a l hm) ?_
  by_cases h : (resIs a l).1 = true
  · rw [if_pos h]
    refine ev_pos (resIs_two h) (Ev.step (fun k => spec_SymmetricValues.j0.eq_2 ..) (ev_neg (by rw [h]; decide) ?_))
    obtain ⟨n, rfl, hn, hl, h16, hp⟩ := (resIs_ok h).nat
    rw [Int.toNat_natCast]
    exact specVals_loop n hn l hl (n + 1) 0 (by omega)
  · rw [if_neg h]
    have hf : (resIs a l).1 = false := Bool.eq_false_iff.mpr h
    by_cases h2 : (resIs a l).2 = true
    · exact ev_pos h2 (Ev.step (fun k => spec_SymmetricValues.j0.eq_2 ..) (ev_pos (by rw [hf]; rfl) (ev_const rfl)))
    · exact ev_neg h2 (Ev.step (fun k => spec_SymmetricValues.j0.eq_2 ..) (ev_pos rfl (ev_const rfl)))
theorem symR_ev (n : Nat) (hn : n ≤ 4) (l : List Int) (hl : l.length = 2 ^ n) (h16 : l.length ≤ 16) (hp : 1 ≤ l.length) : ∀ (d i : Nat), 1 ≤ i → (d = 0 ∨ i + d = n) → Ev (fun k => symR k (n : Int) l d i) (symL l d i) := by
  intro d
  induction d with
  | zero => intro i h1 h; exact ev_const rfl
  | succ d ih =>
    intro i h1 h
    unfold symR symL
    refine ev_bind (implSwapped n i hn (by omega) h1 l hl) (ev_bind (slEqual (swL l i) l (by rw [swL_len]; simp only [maxLen]; omega)) ?_)
    by_cases he : swL l i = l
    · rw [if_pos he]
      exact ev_pos (by simpa using he) (ih (i + 1) (by omega) (by omega))
    · rw [if_neg he]
      exact ev_neg (by simpa using he) (ev_const rfl)
theorem implIs (a : Int) (l : List Int) (hm : l.length ≤ maxLen) : Ev (fun k => impl_IsSymmetric.f k a l) (resIs a l) := by
  unfold impl_IsSymmetric.f resIs
  by_cases h : TabOk a l
  · rw [if_pos h]
    refine ev_pos h ?_
    obtain ⟨n, rfl, hn, hl, h16, hp⟩ := h.nat
    rw [Int.toNat_natCast]
    exact symR_ev n hn l hl h16 hp (n - 1) 1 (by omega) (by omega)
  · rw [if_neg h]
    exact ev_neg h (ev_bind (isTable a l hm) (ev_neg (by simpa using h) (ev_const rfl)))
theorem implVals_loop (n : Nat) (hn : n ≤ 4) (l : List Int) (hl : l.length = 2 ^ n) : ∀ (d c : Nat), c + d = n + 1 →
    Ev (fun k => impl_SymmetricValues.l0 k ((List.range c).map (fun j => rd l (((2 ^ j : Nat) : Int) - 1))) (c : Int) (n : Int) l) (symV n l, true) := by
  intro d
  induction d with
  | zero =>
    intro c hc
    obtain rfl : c = n + 1 := by omega
    exact Ev.step (fun k => impl_SymmetricValues.l0.eq_2 ..) (ev_neg (by omega) (ev_const rfl))
  | succ d ih =>
    intro c hc
    have hc4 : c ≤ 4 := by omega
    obtain ⟨p1, p2, p3⟩ := pow_in (c := c) (n := n) (by omega) hn
    have hw : wrap64 (((2 ^ c : Nat) : Int) - 1) = ((2 ^ c : Nat) : Int) - 1 := wrap_id (by omega) (by omega)
    refine Ev.step (fun k => impl_SymmetricValues.l0.eq_2 ..) ?_
    try simp only [u64c hc4]
    simp only [shlc hc4, hw]
    refine ev_pos (by omega) (ev_pos (by omega) (ev_pos (by omega) (ev_pos (by rw [hl]; omega) (ev_pos (by simp; omega) ?_))))
    rw [wrap_id (by omega) (by omega)]
    have := ih (c + 1) (by omega)
    rw [List.range_succ, List.map_append, show ((c + 1 : Nat) : Int) = (c : Int) + 1 by omega] at this
    exact this
theorem implSymmetricValues (a : Int) (l : List Int) (hm : l.length ≤ maxLen) : Ev (fun k => impl_SymmetricValues.f k a l) (resSymmetricValues a l) := by
  unfold impl_SymmetricValues.f resSymmetricValues
  refine ev_bind (implIs a l hm) ?_
  by_cases h : (resIs a l).1 = true
  · rw [if_pos h]
    refine ev_pos (resIs_two h) (Ev.step (fun k => impl_SymmetricValues.j0.eq_2 ..) (ev_neg (by rw [h]; decide) ?_))
    obtain ⟨n, rfl, hn, hl, h16, hp⟩ := (resIs_ok h).nat
    rw [Int.toNat_natCast]
    exact implVals_loop n hn l hl (n + 1) 0 (by omega)
  · rw [if_neg h]
    have hf : (resIs a l).1 = false := Bool.eq_false_iff.mpr h
    by_cases h2 : (resIs a l).2 = true
    · exact ev_pos h2 (Ev.step (fun k => impl_SymmetricValues.j0.eq_2 ..) (ev_pos (by rw [hf]; rfl) (ev_const rfl)))
    · exact ev_neg h2 (Ev.step (fun k => impl_SymmetricValues.j0.eq_2 ..) (ev_pos rfl (ev_const rfl)))
theorem lawFnExactSymmetricValues (a0_0 : Int) (A0_1 : Option Addr) (c0_1 : Nat) (l0_1 : List Int) (w : World) (h1 : Kd.C (Kd.int .i64) w A0_1 l0_1.length l0_1) (hc1 : l0_1.length ≤ c0_1) (hm : l0_1.length ≤ maxLen) :
    Calls Try.prog 6 #[.agg #[.int .i64 a0_0, .slice A0_1 l0_1.length c0_1]] w fun e w' => e = .returned (.bool true) ∧ Below w.heap.size w w' := by
  obtain ⟨s, e0, hsm⟩ := szTab a0_0 l0_1 hm
  by_cases hs : s < 0
  · exact FnExactSymmetricValues_small0 0 _ _ _ _ s w h1 hc1 e0 hs
  have g1 := hsm (by omega)
  obtain ⟨K1, e1⟩ := toTab a0_0 l0_1 g1
  obtain ⟨K3, e3⟩ := specSymmetricValues a0_0 l0_1 hm
  obtain ⟨K4, e4⟩ := implSymmetricValues a0_0 l0_1 hm
  obtain ⟨K5, e5⟩ := eqTab a0_0 l0_1 hm
  obtain ⟨⟨t0, t1⟩, ht⟩ : ∃ t, t = resSymmetricValues a0_0 l0_1 := ⟨_, rfl⟩
  have q1 : (resSymmetricValues a0_0 l0_1).1.length ≤ 8 := by
    unfold resSymmetricValues
    by_cases h : (resIs a0_0 l0_1).1 = true
    · rw [if_pos h]
      obtain ⟨n, hn_, hn, _⟩ := (resIs_ok h).nat
      simp [symV]
      omega
    · rw [if_neg h]; simp
  rw [← ht] at e3 e4 q1
  simp only at q1
  obtain ⟨K7, e7⟩ := eqInts t0 (by simp only [maxLen]; omega)
  obtain ⟨K8, e8⟩ := markTab a0_0 l0_1 g1
  obtain ⟨K9, e9⟩ := markInts t0 1 (by simp only [maxLen]; omega) (by omega) (by omega)
  obtain ⟨K10, e10⟩ := heldInts t0.length 1 (by simp only [maxLen]; omega) (by omega) (by omega)
  exact FnExactSymmetricValues_walk (K1 + K3 + K4 + K5 + K7 + K8 + K9 + K10) _ _ _ _ s t0 t1 t0 _ _ _ _ w h1 hc1 e0 (by omega) (e1 _ (by omega)) (e3 _ (by omega)) (e4 _ (by omega)) (e7 _ (by omega)) (e5 _ (by omega)) (e8 _ (by omega)) (by omega) (e9 _ (by omega)) (by omega) (e10 _ (by omega))
end Go.Proofs.Ytnccomklpfbcpaa.A
end

section
/- Opens an argument that a row reads as data into the cells and lists that a contract speaks of: whole numbers, slices, structs of two and three fields. -/
namespace Go.Proofs.Ytnccomklpfbcpaa.Op
open Go.ChangeShapes Go.WideShapes Go.Deep Go.RowKit Go.Proofs.YtnccomklpfbcpaaW.PrintWords
set_option linter.unusedVariables false

/-- What reads as data of type t is of kind d, and meets wf. -/
def Opens (P : Program) (t : TypeId) {α : Type} (d : Kd α) (wf : α → Prop) : Prop :=
  ∀ {H : Type} {enc : TypeId × Value → H} {w : World} {base : Nat} {spare : Nat → Bool} {held : Bool} {fuel : Nat} {cs : List Value} {x : DataW H × List MemPlace},
    DataW.trod enc P w base spare held fuel t cs = some x → ∃ a, d.K w a cs ∧ wf a

def WNum (k : IntKind) (n : Int) : Prop := (Lit.int k n).wf = true
abbrev WInt : Int → Prop := WNum .i64
def WList {α : Type} (wf : α → Prop) (l : List α) : Prop := l.length ≤ maxLen ∧ ∀ a ∈ l, wf a

theorem opens_int {P : Program} {t : TypeId} {k : IntKind} (h : P.underlying t = some (.int k)) : Opens P t (Kd.int k) (WNum k) := by
  intro H enc w base spare held fuel cs x ht
  obtain ⟨n, rfl, _, hw⟩ := DataW.trod_int h ht
  exact ⟨n, rfl, hw⟩

theorem opens_slice {P : Program} {t e : TypeId} {α : Type} {d : Kd α} {wf : α → Prop} (q : Nat) (h : P.underlying t = some (.slice e)) (hc : P.cellsOf e = d.sz) (o : Opens P e d wf) :
    Opens P t (Kd.slice q d) (WList wf) := by
  intro H enc w base spare held fuel cs x ht
  rcases open_slice h ht with ⟨rfl, _⟩ | ⟨a, len, cap, m, n, D, Pl, rfl, hb, hl, hm, hmm, hx, hi⟩
  · exact ⟨[], ⟨none, 0, rfl, Nat.le_refl _, rfl, by simp, fun hn => by simp at hn⟩, by simp [WList]⟩
  · have hlm : len ≤ m := by rw [hmm]; split <;> omega
    have each : ∀ i, i < len → ∃ y cs', w.cells? base (a.add (i * d.sz)) d.sz = some cs' ∧ d.K w y cs' ∧ wf y := by
      intro i hil
      obtain ⟨cs', h1, h2⟩ := hi i (by omega)
      obtain ⟨y, hk, hw⟩ := o h2
      rw [hc] at h1
      exact ⟨y, cs', h1, hk, hw⟩
    have build : ∀ k, k ≤ len → ∃ ys : List α, ys.length = k ∧ (∀ y ∈ ys, wf y) ∧ ∀ j y, ys[j]? = some y → ∃ c, c.length = d.sz ∧ d.K w y c ∧ ∀ i u, c[i]? = some u → w.cell? (a.add (j * d.sz + i)) = some u := by
      intro k
      induction k with
      | zero => exact fun _ => ⟨[], rfl, by simp, by simp⟩
      | succ k ih =>
        intro hk
        obtain ⟨ys, hlen, hwf, hys⟩ := ih (by omega)
        obtain ⟨y, cs', h1, h2, h3⟩ := each k (by omega)
        obtain ⟨_, hcl, hat⟩ := World.cells?_some h1
        refine ⟨ys ++ [y], by simp [hlen], ?_, ?_⟩
        · intro z hz
          rcases List.mem_append.1 hz with hz | hz
          · exact hwf z hz
          · rw [List.mem_singleton.1 hz]; exact h3
        · intro j z hj
          by_cases hjk : j < k
          · rw [List.getElem?_append_left (by omega)] at hj
            exact hys j z hj
          · have hjl : j < (ys ++ [y]).length := (List.getElem?_eq_some_iff.1 hj).1
            simp only [List.length_append, List.length_singleton, hlen] at hjl
            obtain rfl : j = k := by omega
            rw [List.getElem?_append_right (by omega), hlen, Nat.sub_self] at hj
            obtain rfl : y = z := by simpa using hj
            refine ⟨cs', hcl, h2, fun i u hu => ?_⟩
            have hil : i < d.sz := by
              have := (List.getElem?_eq_some_iff.1 hu).1
              omega
            have := hat i hil
            rw [Go.Deep.add_add] at this
            rw [this, hu]
    obtain ⟨ys, hlen, hwf, hys⟩ := build len (Nat.le_refl _)
    have hmx : len ≤ maxLen := by omega
    exact ⟨ys, ⟨some a, cap, by rw [hlen], by rw [hlen]; exact hl, rfl, by rw [hlen]; exact hmx, fun _ => ⟨a, rfl, hys⟩⟩, by rw [hlen]; exact hmx, hwf⟩

theorem opens_iso {P : Program} {t : TypeId} {α β : Type} {d : Kd α} {wf : α → Prop} (f : β → α) (g : α → β) (hg : ∀ a, f (g a) = a) (o : Opens P t d wf) : Opens P t (Kd.iso d f) (fun b => wf (f b)) := by
  intro H enc w base spare held fuel cs x ht
  obtain ⟨a, h1, h2⟩ := o ht
  exact ⟨g a, by show d.K w (f (g a)) cs; rw [hg]; exact h1, by show wf (f (g a)); rw [hg]; exact h2⟩

theorem opens_two {P : Program} {t : TypeId} {f0 f1 : Field} {α β : Type} {a : Kd α} {b : Kd β} {wa : α → Prop} {wb : β → Prop}
    (h : P.underlying t = some (.struct #[f0, f1])) (hc : P.cellsOf t = a.sz + b.sz) (o0 : f0.offset = 0) (o1 : f1.offset = a.sz) (c0 : P.cellsOf f0.type = a.sz) (c1 : P.cellsOf f1.type = b.sz)
    (oa : Opens P f0.type a wa) (ob : Opens P f1.type b wb) : Opens P t (Kd.pair a b) (fun x => wa x.1 ∧ wb x.2) := by
  intro H enc w base spare held fuel cs x ht
  obtain ⟨xs, n, _, _, hlen, hxl, hf⟩ := DataW.trod_struct h ht
  have hx2 : xs.length = 2 := hxl
  have h0 := hf 0 f0 rfl
  have h1 := hf 1 f1 rfl
  rw [List.getElem?_eq_getElem (by omega)] at h0 h1
  obtain ⟨y0, k0, w0⟩ := oa h0
  obtain ⟨y1, k1, w1⟩ := ob h1
  refine ⟨(y0, y1), ⟨_, _, ?_, k0, k1⟩, w0, w1⟩
  rw [hc] at hlen
  rw [o0, o1, c0, c1, List.drop_zero]
  rw [List.take_of_length_le (l := cs.drop a.sz) (by simp; omega), List.take_append_drop]

theorem opens_three {P : Program} {t : TypeId} {f0 f1 f2 : Field} {α β γ : Type} {a : Kd α} {b : Kd β} {c : Kd γ} {wa : α → Prop} {wb : β → Prop} {wc : γ → Prop}
    (h : P.underlying t = some (.struct #[f0, f1, f2])) (hc : P.cellsOf t = a.sz + (b.sz + c.sz)) (o0 : f0.offset = 0) (o1 : f1.offset = a.sz) (o2 : f2.offset = a.sz + b.sz) (c0 : P.cellsOf f0.type = a.sz) (c1 : P.cellsOf f1.type = b.sz) (c2 : P.cellsOf f2.type = c.sz)
    (oa : Opens P f0.type a wa) (ob : Opens P f1.type b wb) (oc : Opens P f2.type c wc) : Opens P t (Kd.pair a (Kd.pair b c)) (fun x => wa x.1 ∧ wb x.2.1 ∧ wc x.2.2) := by
  intro H enc w base spare held fuel cs x ht
  obtain ⟨xs, n, _, _, hlen, hxl, hf⟩ := DataW.trod_struct h ht
  have hx2 : xs.length = 3 := hxl
  have h0 := hf 0 f0 rfl
  have h1 := hf 1 f1 rfl
  have h2 := hf 2 f2 rfl
  rw [List.getElem?_eq_getElem (by omega)] at h0 h1 h2
  obtain ⟨y0, k0, w0⟩ := oa h0
  obtain ⟨y1, k1, w1⟩ := ob h1
  obtain ⟨y2, k2, w2⟩ := oc h2
  rw [hc] at hlen
  refine ⟨(y0, y1, y2), ⟨_, cs.drop a.sz, ?_, k0, ⟨_, _, ?_, k1, k2⟩⟩, w0, w1, w2⟩
  · rw [o0, c0, List.drop_zero, List.take_append_drop]
  · rw [o1, o2, c1, c2]
    rw [List.take_of_length_le (l := cs.drop (a.sz + b.sz)) (by simp; omega), ← List.drop_drop, List.take_append_drop]

/-- A slice among the arguments. -/
theorem open_arg_slice {P : Program} {t : TypeId} {α : Type} {d : Kd α} {wf : α → Prop} {q : Nat} (o : Opens P t (Kd.slice q d) (WList wf)) {H : Type} {enc : TypeId × Value → H} {w : World} {base : Nat} {spare : Nat → Bool} {held : Bool}
    {A : Option Addr} {len cap : Nat} {D : DataW H} {ps : List MemPlace} (h : DataW.Trod enc P w base spare held t (.slice A len cap) D ps) :
    ∃ l : List α, len = l.length ∧ l.length ≤ cap ∧ d.C w A l.length l ∧ WList wf l := by
  obtain ⟨fuel, hf⟩ := h
  obtain ⟨l, ⟨A', c, he, hl, hC⟩, hw⟩ := o hf
  simp only [Value.cells, List.cons.injEq, Value.slice.injEq, and_true] at he
  obtain ⟨rfl, rfl, rfl⟩ := he
  exact ⟨l, rfl, hl, hC, hw⟩
end Go.Proofs.Ytnccomklpfbcpaa.Op
end

section
/- FnExactSymmetricValues: the program and the reference agree for all arguments: the row over the pure statement. -/
namespace Go.Proofs.Ytnccomklpfbcpaa.fnExactSymmetricValues
open Go.ChangeShapes Go.WideShapes Go.ChangeAt Go.RowKit
open Go.ChangeMaps (open_string shut_string)
open Go.Proofs.Ytnccomklpfbcpaa.Op
set_option linter.unusedVariables false
theorem own : ownKnob Try.prog.godebug = none := by kernel_rfl
theorem laidOut : laidOutB Try.prog = true := by kernel_rfl
theorem ty3 : Opens Try.prog 3 (Go.Proofs.YtnccomklpfbcpaaW.PrintWords.Kd.int .i64) (WNum .i64) := opens_int Try.underlying3
theorem ty22 : Opens Try.prog 22 (Go.Proofs.YtnccomklpfbcpaaW.PrintWords.Kd.slice 3 (Go.Proofs.YtnccomklpfbcpaaW.PrintWords.Kd.int .i64)) (WList (WNum .i64)) := opens_slice 3 Try.underlying22 (by kernel_rfl) ty3
theorem tw24 : Opens Try.prog 24 (Go.Proofs.YtnccomklpfbcpaaW.PrintWords.Kd.pair (Go.Proofs.YtnccomklpfbcpaaW.PrintWords.Kd.int .i64) (Go.Proofs.YtnccomklpfbcpaaW.PrintWords.Kd.slice 3 (Go.Proofs.YtnccomklpfbcpaaW.PrintWords.Kd.int .i64))) (fun x : Int × (List Int) => (WNum .i64) x.1 ∧ (WList (WNum .i64)) x.2) := opens_two Try.underlying24 (by kernel_rfl) (by kernel_rfl) (by kernel_rfl) (by kernel_rfl) (by kernel_rfl) ty3 ty22
set_option maxRecDepth 100000 in
theorem lifted (os : Os) (started : os.Started) (H : Type) (enc : TypeId × Value → H) :
    ReturnsInHanded {} Try.checked os 6 .any (Rows.fnExactSymmetricValuesSpec.pre6 enc Try.prog Try.f6 Rows.fnExactSymmetricValuesRow.domain false) (Rows.fnExactSymmetricValuesSpec.post enc Try.prog Try.f6 false true false false) := by
  refine returnsInHanded_of_change_sized (C := Try.checked) own started (by kernel_rfl) Try.func6
    (ChangeSpec.witness6 (enc := enc) (C := Try.checked) false ⟨#[], #[.agg #[.int .i64 0, .slice none 0 0]], []⟩ 8 (by kernel_rfl) (by kernel_rfl) (by kernel_rfl) (by kernel_rfl)) ?_
  intro W base args ds gs before hval0 hW hcnd hsz0 _
  have hsz : (DataW.weightsEach Try.prog (Try.f6.params.toList ++ Rows.fnExactSymmetricValuesSpec.plain.varTypes Try.prog) (ds ++ gs)).all (· ≤ reachBytes) = true := hsz0
  have hval : ∀ (j : Nat) t v, Try.f6.params[j]? = some t → args[j]? = some v → Value.okWide Try.prog W .any base t v := hval0
  have hW' := hW
  obtain ⟨p, q, hA0, hV, rfl, hfz, hnd⟩ := hW
  have hA : DataW.TrodAll enc Try.prog W 0 (fun _ => true) true Try.f6.params.toList args.toList ds p := hA0
  rw [Try.params6] at hA hval hsz
  obtain ⟨v0, vs0, d0, ds0, p0, q0, hargs, rfl, rfl, h0, r0⟩ := trodAll_cons hA
  obtain ⟨rfl, rfl, rfl⟩ := trodAll_nil r0
  obtain rfl : args = #[v0] := by cases args; simp_all
  obtain ⟨rfl, rfl⟩ := trodVars_none hV
  have k0 := h0
  have lt0 : ∀ x ∈ p0, x.block < W.heap.size := by obtain ⟨m, hm⟩ := k0; exact DataW.trod_lt m _ _ _ hm
  obtain ⟨cs0, rfl, _⟩ := okWide_struct Try.underlying24 (hval 0 24 v0 rfl rfl)
  obtain ⟨csl0⟩ := cs0
  obtain ⟨fu0, hf0⟩ := h0
  obtain ⟨⟨a0_0, l0_1⟩, ⟨x0_0, x0_1, ex0, e0_0, ⟨A0_1, c0_1, e0_1, hc0_1, hC0_1⟩⟩, ⟨w0_0, w0_1⟩⟩ := tw24 hf0
  replace e0_0 : x0_0 = [Value.int .i64 a0_0] := e0_0
  replace e0_1 : x0_1 = [Value.slice A0_1 l0_1.length c0_1] := e0_1
  replace hc0_1 : l0_1.length ≤ c0_1 := hc0_1
  replace hC0_1 : Go.Proofs.YtnccomklpfbcpaaW.PrintWords.Kd.C (Go.Proofs.YtnccomklpfbcpaaW.PrintWords.Kd.int .i64) W A0_1 l0_1.length l0_1 := hC0_1
  replace w0_0 : (WNum .i64) a0_0 := w0_0
  replace w0_1 : (WList (WNum .i64)) l0_1 := w0_1
  subst e0_0 e0_1
  have ex0' : csl0 = [.int .i64 a0_0, .slice A0_1 l0_1.length c0_1] := ex0
  subst ex0'
  clear hA0 hval0 hsz0 hsz
  refine (A.lawFnExactSymmetricValues a0_0 A0_1 c0_1 l0_1 W hC0_1 hc0_1 w0_1.1).mono fun e W' ⟨he, bel⟩ => ?_
  subst he
  exact ⟨_, rfl, _, _, _, [], _, [], hW', trodAll_mk1 (shut_bool Try.underlying4 _), (trodAll_cons_mk (Below.trod laidOut (by kernel_rfl) (of_decide_eq_true (by kernel_rfl)) k0 bel lt0) trodAll_mk0), rfl, bel.frame _, fun h => by cases h⟩
theorem over : Rows.fnExactSymmetricValuesRow.holds Try.pinned (OpenSpec.ofChange Rows.fnExactSymmetricValuesSpec) :=
  OpenClaim.holds_of_wide 6 Try.f6 rfl rfl rfl rfl rfl rfl rfl ⟨rfl, rfl, rfl, rfl, rfl⟩ rfl rfl rfl rfl rfl (by kernel_rfl) Try.func6 (by kernel_rfl)
    (of_decide_eq_true (by kernel_rfl)) (by unfold Func.isWrapper; first | (rw [if_pos (by decide +kernel)]; kernel_rfl) | (rw [if_neg (by decide +kernel)]; exact ⟨rfl, rfl⟩))
    (fun os started H enc _ => lifted os started H enc)
end Go.Proofs.Ytnccomklpfbcpaa.fnExactSymmetricValues
namespace Go.Proofs.Ytnccomklpfbcpaa
/-- The row. -/
theorem fnExactSymmetricValues_holds : Rows.FnExactSymmetricValuesSaid := fnExactSymmetricValues.over
end Go.Proofs.Ytnccomklpfbcpaa
end
