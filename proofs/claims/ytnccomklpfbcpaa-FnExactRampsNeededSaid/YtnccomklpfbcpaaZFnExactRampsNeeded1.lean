/- FnExactRampsNeeded: texts of this claim in one: WalkFnExactRampsNeeded, ASet, ATab, LawRampsNeeded, Op, RowFnExactRampsNeeded. -/
import Derived.Test.YtnccomklpfbcpaaZFnExactRampsNeeded0
import Derived.Test.YtnccomklpfbcpaaYFnExactRampsNeededPx31
import Derived.Test.YtnccomklpfbcpaaYFnExactRampsNeededPx33
import Derived.Test.YtnccomklpfbcpaaOwnW
import Derived.Test.YtnccomklpfbcpaaYFnExactRampsNeededPx70
import Derived.Test.YtnccomklpfbcpaaYFnExactRampsNeededPx15
import Derived.Test.YtnccomklpfbcpaaYFnExactRampsNeededABo
import Derived.Test.YtnccomklpfbcpaaYFnExactRampsNeededPx26
import Derived.Test.YtnccomklpfbcpaaYFnExactRampsNeededPx16
import Derived.Test.YtnccomklpfbcpaaYFnExactRampsNeededVQ
import Derived.Deep.Slices
import Derived.ChangeSame
import Derived.ChangeArms
import Derived.Test.YtnccomklpfbcpaaWWords
import Derived.Test.YtnccomklpfbcpaaRows
import Derived.WalkKit
import Derived.ProofKit
import Derived.OpenShut
import Derived.ShutString
import Derived.ChangeOld
import Derived.Below
import Derived.SizedLaws
section
/- The walk of FnExactRampsNeeded along the one way on which all its tests succeed, and the short ones where an argument is too great. -/
namespace Go.Proofs.Ytnccomklpfbcpaa.P
open Go.RowKit Go.Proofs.YtnccomklpfbcpaaW.PrintWords Go.Proofs.YtnccomklpfbcpaaW.PrintLast Go.Proofs.YtnccomklpfbcpaaW.PrintMore Go.Proofs.Ytnccomklpfbcpaa
set_option linter.unusedVariables false
set_option linter.unusedSimpArgs false
set_option maxHeartbeats 4000000 in
set_option maxRecDepth 100000 in
theorem FnExactRampsNeeded_small0 (k : Nat) (a0_0 : Int) (A0_1 : Option Addr) (c0_1 : Nat) (l0_1 : List (Int)) (z_aT : Int) (w : World)
    (hr0_1 : Kd.C (Kd.int .i64) w A0_1 l0_1.length l0_1) (hc0_1 : l0_1.length ≤ c0_1)
    (e_sz_aT : laws_szTable.f a0_0 l0_1 1048576 = some z_aT)
    (hz_aT : z_aT < 0) :
    Calls Try.prog 5 #[.agg #[.int .i64 a0_0, .slice A0_1 l0_1.length c0_1]] w fun e w' => e = .returned (.bool true) ∧ Below w.heap.size w w' := by
  have hu28 := Try.underlying28
  have hu24 := Try.underlying24
  have hzb_aT : decide (z_aT < 0) = true := decide_eq_true (by omega)
  have HR0_1 := Aside0.mk hr0_1
  clear hr0_1
  have HC0_1 := Aside0.mk hc0_1
  clear hc0_1
  have He_sz_aT := Aside0.mk e_sz_aT
  clear e_sz_aT
  have HB := Aside0.mk (Below.refl w.heap.size w)
  go_enter Try.func5, Try.ntmps5
  go_wp2_with fail
  refine (laws_szTable.calls _ _ _ _ _ _ _ (Kd.C_below HR0_1.out (below_step HB.out (by repeat (first | with_reducible exact Below.refl _ _ | with_reducible apply below_alloc | with_reducible refine below_set ?_ (Nat.le_refl _) | with_reducible apply pw_below_drewN | with_reducible apply below_drew1)))) HC0_1.out He_sz_aT.out).mono ?_
  rintro e w1 ⟨rfl, hb⟩
  have BK_aT := Aside0.mk (blk_below (g := w.heap.size) (o := .cells #[.int .i64 a0_0, .slice A0_1 l0_1.length c0_1] 24 (0, 0)) (by (repeat (first | with_reducible refine blk_drewN ?_ _ | with_reducible refine blk_drew ?_)); exact (blk_new _ _)) hb)
  have HG_BK_aT : Aside0 (w.heap.size < w1.heap.size) := ⟨blk_lt BK_aT.out⟩
  have HW := Aside0.mk (below_step (w := w) (by repeat (first | with_reducible exact Below.refl _ _ | with_reducible apply below_alloc | with_reducible refine below_set ?_ (Nat.le_refl _) | with_reducible apply pw_below_drewN | with_reducible apply below_drew1)) hb)
  have HZ1 : Aside0 (w.heap.size ≤ w1.heap.size) := ⟨HW.out.size⟩
  replace HB := Aside0.mk (below_step HB.out HW.out)
  clear hb HW
  have czBK_aT_0 : w1.cell? ⟨w.heap.size, 0, none⟩ = some (.int .i64 a0_0) := (blk_cell BK_aT.out 0).trans rfl
  have czBK_aT_1 : w1.cell? ⟨w.heap.size, 1, none⟩ = some (.slice A0_1 l0_1.length c0_1) := (blk_cell BK_aT.out 1).trans rfl
  go_wp2_with fail
  go_ret
  exact ⟨rfl, below_step HB.out (by repeat (first | with_reducible exact Below.refl _ _ | with_reducible apply below_alloc | with_reducible refine below_set ?_ (Nat.le_refl _) | with_reducible apply pw_below_drewN | with_reducible apply below_drew1))⟩
set_option maxHeartbeats 4000000 in
set_option maxRecDepth 100000 in
theorem FnExactRampsNeeded_walk (k : Nat) (a0_0 : Int) (A0_1 : Option Addr) (c0_1 : Nat) (l0_1 : List (Int)) (z_aT : Int) (r0 : Int) (r1 : Bool) (w : World)
    (hr0_1 : Kd.C (Kd.int .i64) w A0_1 l0_1.length l0_1) (hc0_1 : l0_1.length ≤ c0_1)
    (e_sz_aT : laws_szTable.f a0_0 l0_1 1048576 = some z_aT)
    (hz_aT : 0 ≤ z_aT)
    (e_to_aT : laws_toTable.f k a0_0 l0_1 = some (a0_0, l0_1))
    (e_spec : spec_RampsNeeded.f k a0_0 l0_1 = some (r0, r1))
    (e_impl : impl_RampsNeeded.f k a0_0 l0_1 = some (r0, r1))
    (e_eq_x0 : laws_eqTable.f k a0_0 l0_1 a0_0 l0_1 = some true) :
    Calls Try.prog 5 #[.agg #[.int .i64 a0_0, .slice A0_1 l0_1.length c0_1]] w fun e w' => e = .returned (.bool true) ∧ Below w.heap.size w w' := by
  have hu28 := Try.underlying28
  have hu24 := Try.underlying24
  have hzb_aT : decide (z_aT < 0) = false := decide_eq_false (by omega)
  have HR0_1 := Aside0.mk hr0_1
  clear hr0_1
  have HC0_1 := Aside0.mk hc0_1
  clear hc0_1
  have He_sz_aT := Aside0.mk e_sz_aT
  clear e_sz_aT
  have He_to_aT := Aside0.mk e_to_aT
  clear e_to_aT
  have He_spec := Aside0.mk e_spec
  clear e_spec
  have He_impl := Aside0.mk e_impl
  clear e_impl
  have He_eq_x0 := Aside0.mk e_eq_x0
  clear e_eq_x0
  have HB := Aside0.mk (Below.refl w.heap.size w)
  go_enter Try.func5, Try.ntmps5
  go_wp2_with fail
  refine (laws_szTable.calls _ _ _ _ _ _ _ (Kd.C_below HR0_1.out (below_step HB.out (by repeat (first | with_reducible exact Below.refl _ _ | with_reducible apply below_alloc | with_reducible refine below_set ?_ (Nat.le_refl _) | with_reducible apply pw_below_drewN | with_reducible apply below_drew1)))) HC0_1.out He_sz_aT.out).mono ?_
  rintro e w1 ⟨rfl, hb⟩
  have BK_aT := Aside0.mk (blk_below (g := w.heap.size) (o := .cells #[.int .i64 a0_0, .slice A0_1 l0_1.length c0_1] 24 (0, 0)) (by (repeat (first | with_reducible refine blk_drewN ?_ _ | with_reducible refine blk_drew ?_)); exact (blk_new _ _)) hb)
  have HG_BK_aT : Aside0 (w.heap.size < w1.heap.size) := ⟨blk_lt BK_aT.out⟩
  have HW := Aside0.mk (below_step (w := w) (by repeat (first | with_reducible exact Below.refl _ _ | with_reducible apply below_alloc | with_reducible refine below_set ?_ (Nat.le_refl _) | with_reducible apply pw_below_drewN | with_reducible apply below_drew1)) hb)
  have HZ1 : Aside0 (w.heap.size ≤ w1.heap.size) := ⟨HW.out.size⟩
  replace HB := Aside0.mk (below_step HB.out HW.out)
  clear hb HW
  have czBK_aT_0 : w1.cell? ⟨w.heap.size, 0, none⟩ = some (.int .i64 a0_0) := (blk_cell BK_aT.out 0).trans rfl
  have czBK_aT_1 : w1.cell? ⟨w.heap.size, 1, none⟩ = some (.slice A0_1 l0_1.length c0_1) := (blk_cell BK_aT.out 1).trans rfl
  go_wp2_with fail
  refine (laws_toTable.calls k _ _ _ _ _ _ _ (Kd.C_below HR0_1.out (below_step HB.out (by repeat (first | with_reducible exact Below.refl _ _ | with_reducible apply below_alloc | with_reducible refine below_set ?_ (Nat.le_refl _) | with_reducible apply pw_below_drewN | with_reducible apply below_drew1)))) HC0_1.out He_to_aT.out).mono ?_
  rintro e w2 ⟨vt13_0, rfl, hf1, hb⟩
  clear czBK_aT_0 czBK_aT_1
  have HN := Aside0.mk HB.out.size
  have HW := Aside0.mk (below_step (w := w1) (by repeat (first | with_reducible exact Below.refl _ _ | with_reducible apply below_alloc | with_reducible refine below_set ?_ (Nat.le_refl _) | with_reducible apply pw_below_drewN | with_reducible apply below_drew1)) hb)
  have HZ2 : Aside0 (w1.heap.size ≤ w2.heap.size) := ⟨HW.out.size⟩
  replace HB := Aside0.mk (below_step HB.out HW.out)
  replace BK_aT := Aside0.mk (blk_below BK_aT.out HW.out)
  obtain ⟨lo1_, F1, HLO1⟩ := Own.R_iv (wN := w1) rfl hf1 HN.out (by repeat (first | with_reducible exact Below.refl _ _ | with_reducible apply below_alloc | with_reducible refine below_set ?_ (Nat.le_refl _) | with_reducible apply pw_below_drewN | with_reducible apply below_drew1)) hb
  obtain ⟨A1_, c1_, e1_⟩ := Kd.R_slice F1.out
  subst e1_
  clear hb HW HN hf1
  have czBK_aT_0 : w2.cell? ⟨w.heap.size, 0, none⟩ = some (.int .i64 a0_0) := (blk_cell BK_aT.out 0).trans rfl
  have czBK_aT_1 : w2.cell? ⟨w.heap.size, 1, none⟩ = some (.slice A0_1 l0_1.length c0_1) := (blk_cell BK_aT.out 1).trans rfl
  go_wp2_with fail
  refine (spec_RampsNeeded.calls k _ _ _ _ _ _ _ (Kd.C_below (Kd.R_reads' F1.out).2.2 (by repeat (first | with_reducible exact Below.refl _ _ | with_reducible apply below_alloc | with_reducible refine below_set ?_ (Nat.le_refl _) | with_reducible apply pw_below_drewN | with_reducible apply below_drew1))) (Kd.R_reads' F1.out).2.1 He_spec.out).mono ?_
  rintro e w3 ⟨rfl, hb⟩
  clear czBK_aT_0 czBK_aT_1
  have HN := Aside0.mk HB.out.size
  have HW := Aside0.mk (below_step (w := w2) (by repeat (first | with_reducible exact Below.refl _ _ | with_reducible apply below_alloc | with_reducible refine below_set ?_ (Nat.le_refl _) | with_reducible apply pw_below_drewN | with_reducible apply below_drew1)) hb)
  have HZ3 : Aside0 (w2.heap.size ≤ w3.heap.size) := ⟨HW.out.size⟩
  replace HB := Aside0.mk (below_step HB.out HW.out)
  replace F1 := Aside0.mk (Kd.R_below F1.out HW.out)
  replace BK_aT := Aside0.mk (blk_below BK_aT.out HW.out)
  clear hb HW HN 
  have czBK_aT_0 : w3.cell? ⟨w.heap.size, 0, none⟩ = some (.int .i64 a0_0) := (blk_cell BK_aT.out 0).trans rfl
  have czBK_aT_1 : w3.cell? ⟨w.heap.size, 1, none⟩ = some (.slice A0_1 l0_1.length c0_1) := (blk_cell BK_aT.out 1).trans rfl
  go_wp2_with fail
  refine (laws_toTable.calls k _ _ _ _ _ _ _ (Kd.C_below HR0_1.out (below_step HB.out (by repeat (first | with_reducible exact Below.refl _ _ | with_reducible apply below_alloc | with_reducible refine below_set ?_ (Nat.le_refl _) | with_reducible apply pw_below_drewN | with_reducible apply below_drew1)))) HC0_1.out He_to_aT.out).mono ?_
  rintro e w4 ⟨vx0_0, rfl, hf2, hb⟩
  clear czBK_aT_0 czBK_aT_1
  have HN := Aside0.mk HB.out.size
  have HW := Aside0.mk (below_step (w := w3) (by repeat (first | with_reducible exact Below.refl _ _ | with_reducible apply below_alloc | with_reducible refine below_set ?_ (Nat.le_refl _) | with_reducible apply pw_below_drewN | with_reducible apply below_drew1)) hb)
  have HZ4 : Aside0 (w3.heap.size ≤ w4.heap.size) := ⟨HW.out.size⟩
  replace HB := Aside0.mk (below_step HB.out HW.out)
  replace F1 := Aside0.mk (Kd.R_below F1.out HW.out)
  replace BK_aT := Aside0.mk (blk_below BK_aT.out HW.out)
  obtain ⟨lo2_, F2, HLO2⟩ := Own.R_iv (wN := w3) rfl hf2 HN.out (by repeat (first | with_reducible exact Below.refl _ _ | with_reducible apply below_alloc | with_reducible refine below_set ?_ (Nat.le_refl _) | with_reducible apply pw_below_drewN | with_reducible apply below_drew1)) hb
  obtain ⟨A2_, c2_, e2_⟩ := Kd.R_slice F2.out
  subst e2_
  clear hb HW HN hf2
  have czBK_aT_0 : (w4.alloc (.cells #[.int .i64 a0_0, .slice A2_ l0_1.length c2_] 28)).cell? ⟨w.heap.size, 0, none⟩ = some (.int .i64 a0_0) := (blk_cell (blk_alloc BK_aT.out _) 0).trans rfl
  have czBK_aT_1 : (w4.alloc (.cells #[.int .i64 a0_0, .slice A2_ l0_1.length c2_] 28)).cell? ⟨w.heap.size, 1, none⟩ = some (.slice A0_1 l0_1.length c0_1) := (blk_cell (blk_alloc BK_aT.out _) 1).trans rfl
  go_wp2_with fail
  refine (impl_RampsNeeded.calls k _ _ _ _ _ _ _ (Kd.C_below (Kd.R_reads' F2.out).2.2 (by repeat (first | with_reducible exact Below.refl _ _ | with_reducible apply below_alloc | with_reducible refine below_set ?_ (Nat.le_refl _) | with_reducible apply pw_below_drewN | with_reducible apply below_drew1))) (Kd.R_reads' F2.out).2.1 He_impl.out).mono ?_
  rintro e w5 ⟨rfl, hb⟩
  clear czBK_aT_0 czBK_aT_1
  have HN := Aside0.mk HB.out.size
  have BK_x0 := Aside0.mk (blk_below (g := w4.heap.size) (o := .cells #[.int .i64 a0_0, .slice A2_ l0_1.length c2_] 28 (0, 0)) (by (repeat (first | with_reducible refine blk_drewN ?_ _ | with_reducible refine blk_drew ?_)); exact (blk_new _ _)) hb)
  have HG_BK_x0 : Aside0 (w4.heap.size < w5.heap.size) := ⟨blk_lt BK_x0.out⟩
  have HW := Aside0.mk (below_step (w := w4) (by repeat (first | with_reducible exact Below.refl _ _ | with_reducible apply below_alloc | with_reducible refine below_set ?_ (Nat.le_refl _) | with_reducible apply pw_below_drewN | with_reducible apply below_drew1)) hb)
  have HZ5 : Aside0 (w4.heap.size ≤ w5.heap.size) := ⟨HW.out.size⟩
  replace HB := Aside0.mk (below_step HB.out HW.out)
  replace F1 := Aside0.mk (Kd.R_below F1.out HW.out)
  replace F2 := Aside0.mk (Kd.R_below F2.out HW.out)
  replace BK_aT := Aside0.mk (blk_below BK_aT.out HW.out)
  clear hb HW HN 
  have czBK_aT_0 : w5.cell? ⟨w.heap.size, 0, none⟩ = some (.int .i64 a0_0) := (blk_cell BK_aT.out 0).trans rfl
  have czBK_aT_1 : w5.cell? ⟨w.heap.size, 1, none⟩ = some (.slice A0_1 l0_1.length c0_1) := (blk_cell BK_aT.out 1).trans rfl
  have czBK_x0_0 : w5.cell? ⟨w4.heap.size, 0, none⟩ = some (.int .i64 a0_0) := (blk_cell BK_x0.out 0).trans rfl
  have czBK_x0_1 : w5.cell? ⟨w4.heap.size, 1, none⟩ = some (.slice A2_ l0_1.length c2_) := (blk_cell BK_x0.out 1).trans rfl
  go_wp2_with fail
  refine start_ (n := 5) (S := fun w' => w'.cell? ⟨w4.heap.size, 0, none⟩ = some (.int .i64 a0_0) ∧ w'.cell? ⟨w4.heap.size, 1, none⟩ = some (.slice A2_ l0_1.length c2_) ∧ w'.cell? ⟨w.heap.size, 0, none⟩ = some (.int .i64 a0_0) ∧ w'.cell? ⟨w.heap.size, 1, none⟩ = some (.slice A0_1 l0_1.length c0_1)) (ds := []) #[false, false, false, false, false] (by kernel_rfl) rfl rfl ⟨(blk_cell BK_x0.out 0).trans rfl, (blk_cell BK_x0.out 1).trans rfl, (blk_cell BK_aT.out 0).trans rfl, (blk_cell BK_aT.out 1).trans rfl⟩ (fun hHeld => ?_)
  refine Own.anew_ (wN := w5) (by repeat (first | with_reducible exact Below.refl _ _ | with_reducible apply below_alloc | with_reducible refine below_set ?_ (Nat.le_refl _) | with_reducible apply pw_below_drewN | with_reducible apply below_drew1)) hHeld (fun w6 hb hHeld => ?_)
  clear czBK_aT_0 czBK_aT_1 czBK_x0_0 czBK_x0_1
  have HW := Aside0.mk hb
  have HZ6 : Aside0 (w5.heap.size ≤ w6.heap.size) := ⟨HW.out.size⟩
  replace HB := Aside0.mk (below_step HB.out HW.out)
  replace F1 := Aside0.mk (Kd.R_below F1.out HW.out)
  replace F2 := Aside0.mk (Kd.R_below F2.out HW.out)
  replace BK_aT := Aside0.mk (blk_below BK_aT.out HW.out)
  replace BK_x0 := Aside0.mk (blk_below BK_x0.out HW.out)
  clear hb HW
  refine take_ (i := 0) (N := some 35) (v := ?_) (a' := ?_) #[true, false, false, false, false] rfl rfl (by kernel_rfl) (fun _ _ _ h => h) (Or.inl ⟨by rfl, ?_⟩) hHeld ?_ ?_
  rotate_left
  · rintro w' ⟨s0_, s1_, s2_, s3_⟩
    go_simp
    with_reducible rfl
  rotate_left
  · simp only [Act.put, List.setIfInBounds_toArray, List.set_cons_zero, List.set_cons_succ, i64_w, i32_w]
    rfl
  refine take_ (i := 1) (N := some 36) (v := ?_) (a' := ?_) #[true, true, false, false, false] rfl rfl (by kernel_rfl) (fun _ _ _ h => h) (Or.inl ⟨by rfl, ?_⟩) hHeld ?_ ?_
  rotate_left
  · rintro w' ⟨s0_, s1_, s2_, s3_⟩
    go_simp
    with_reducible rfl
  rotate_left
  · simp only [Act.put, List.setIfInBounds_toArray, List.set_cons_zero, List.set_cons_succ, i64_w, i32_w]
    rfl
  refine one_ (i := 2) (N := some 37) #[true, true, true, false, false] rfl rfl (by kernel_rfl) (by decide) (fun K hK => ?_)
  refine goes_ Try.func11 (by kernel_rfl) rfl #[.agg #[.int .i64 a0_0, .slice A0_1 l0_1.length c0_1]] (by rfl) rfl rfl (by (try simp only [List.map_toArray, List.map_cons, List.map_nil]); first | done | rfl | (simp only [List.length_drop, List.length_take]; rfl)) ?_
  with_reducible refine (laws_toTable.calls k _ _ _ _ _ _ _ (Kd.C_below HR0_1.out (below_step HB.out (by repeat (first | with_reducible exact Below.refl _ _ | with_reducible apply below_alloc | with_reducible refine below_set ?_ (Nat.le_refl _) | with_reducible apply pw_below_drewN | with_reducible apply below_drew1)))) HC0_1.out He_to_aT.out).mono ?_
  rintro e w7 ⟨vq6_0, rfl, hf3, hb⟩
  refine ⟨_, rfl, ?_⟩
  have HN := Aside0.mk HB.out.size
  have HW := Aside0.mk (below_step (w := w6) (by repeat (first | with_reducible exact Below.refl _ _ | with_reducible apply below_alloc | with_reducible refine below_set ?_ (Nat.le_refl _) | with_reducible apply pw_below_drewN | with_reducible apply below_drew1)) hb)
  have HZ7 : Aside0 (w6.heap.size ≤ w7.heap.size) := ⟨HW.out.size⟩
  replace HB := Aside0.mk (below_step HB.out HW.out)
  replace F1 := Aside0.mk (Kd.R_below F1.out HW.out)
  replace F2 := Aside0.mk (Kd.R_below F2.out HW.out)
  replace BK_aT := Aside0.mk (blk_below BK_aT.out HW.out)
  replace BK_x0 := Aside0.mk (blk_below BK_x0.out HW.out)
  obtain ⟨lo3_, F3, HLO3⟩ := Own.R_iv (wN := w6) rfl hf3 HN.out (by repeat (first | with_reducible exact Below.refl _ _ | with_reducible apply below_alloc | with_reducible refine below_set ?_ (Nat.le_refl _) | with_reducible apply pw_below_drewN | with_reducible apply below_drew1)) hb
  obtain ⟨A3_, c3_, e3_⟩ := Kd.R_slice F3.out
  subst e3_
  clear hb HW HN hf3
  refine hK.out _ _ ⟨(blk_cell BK_x0.out 0).trans rfl, (blk_cell BK_x0.out 1).trans rfl, (blk_cell BK_aT.out 0).trans rfl, (blk_cell BK_aT.out 1).trans rfl⟩ (fun hHeld => ?_)
  clear hK K
  refine norm_ (a' := ?_) ?_ ?_
  rotate_left
  · show Act.put _ (some 37) _ = _
    simp only [Act.put, List.setIfInBounds_toArray, List.set_cons_zero, List.set_cons_succ, i64_w, i32_w]
    rfl
  refine one_ (i := 3) (N := some 38) #[true, true, true, true, false] rfl rfl (by kernel_rfl) (by decide) (fun K hK => ?_)
  refine goes_ Try.func13 (by kernel_rfl) rfl #[.agg #[.int .i64 a0_0, .slice A2_ l0_1.length c2_], .agg #[.int .i64 a0_0, .slice A3_ l0_1.length c3_]] (by rfl) rfl rfl (by (try simp only [List.map_toArray, List.map_cons, List.map_nil]); first | done | rfl | (simp only [List.length_drop, List.length_take]; rfl)) ?_
  with_reducible refine (laws_eqTable.calls k _ _ _ _ _ _ _ _ _ _ (Kd.C_below (Kd.R_reads' F2.out).2.2 (by repeat (first | with_reducible exact Below.refl _ _ | with_reducible apply below_alloc | with_reducible refine below_set ?_ (Nat.le_refl _) | with_reducible apply pw_below_drewN | with_reducible apply below_drew1))) (Kd.R_reads' F2.out).2.1 (Kd.C_below (Kd.R_reads' F3.out).2.2 (by repeat (first | with_reducible exact Below.refl _ _ | with_reducible apply below_alloc | with_reducible refine below_set ?_ (Nat.le_refl _) | with_reducible apply pw_below_drewN | with_reducible apply below_drew1))) (Kd.R_reads' F3.out).2.1 He_eq_x0.out).mono ?_
  rintro e w8 ⟨rfl, hb⟩
  refine ⟨_, rfl, ?_⟩
  have HW := Aside0.mk (below_step (w := w7) (by repeat (first | with_reducible exact Below.refl _ _ | with_reducible apply below_alloc | with_reducible refine below_set ?_ (Nat.le_refl _) | with_reducible apply pw_below_drewN | with_reducible apply below_drew1)) hb)
  have HZ8 : Aside0 (w7.heap.size ≤ w8.heap.size) := ⟨HW.out.size⟩
  replace HB := Aside0.mk (below_step HB.out HW.out)
  replace F1 := Aside0.mk (Kd.R_below F1.out HW.out)
  replace F2 := Aside0.mk (Kd.R_below F2.out HW.out)
  replace BK_aT := Aside0.mk (blk_below BK_aT.out HW.out)
  replace BK_x0 := Aside0.mk (blk_below BK_x0.out HW.out)
  clear hb HW
  refine hK.out _ _ ⟨(blk_cell BK_x0.out 0).trans rfl, (blk_cell BK_x0.out 1).trans rfl, (blk_cell BK_aT.out 0).trans rfl, (blk_cell BK_aT.out 1).trans rfl⟩ (fun hHeld => ?_)
  clear hK K
  refine norm_ (a' := ?_) ?_ ?_
  rotate_left
  · show Act.put _ (some 38) _ = _
    simp only [Act.put, List.setIfInBounds_toArray, List.set_cons_zero, List.set_cons_succ, i64_w, i32_w]
    rfl
  refine pure_ (i := 4) (N := some 39) (v := ?_) (a' := ?_) #[true, true, true, true, true] rfl rfl (by kernel_rfl) (fun _ _ _ h => h) (Or.inl ⟨by rfl, ?_⟩) ?_ ?_
  rotate_left
  · intro w'
    go_simp
    with_reducible rfl
  rotate_left
  · simp only [Act.put, List.setIfInBounds_toArray, List.set_cons_zero, List.set_cons_succ, i64_w, i32_w]
    rfl
  refine done_ (by kernel_rfl) ?_
  clear hHeld
  have czBK_aT_0 : w8.cell? ⟨w.heap.size, 0, none⟩ = some (.int .i64 a0_0) := (blk_cell BK_aT.out 0).trans rfl
  have czBK_aT_1 : w8.cell? ⟨w.heap.size, 1, none⟩ = some (.slice A0_1 l0_1.length c0_1) := (blk_cell BK_aT.out 1).trans rfl
  have czBK_x0_0 : w8.cell? ⟨w4.heap.size, 0, none⟩ = some (.int .i64 a0_0) := (blk_cell BK_x0.out 0).trans rfl
  have czBK_x0_1 : w8.cell? ⟨w4.heap.size, 1, none⟩ = some (.slice A2_ l0_1.length c2_) := (blk_cell BK_x0.out 1).trans rfl
  go_wp2_with fail
  go_ret
  exact ⟨rfl, below_step HB.out (by repeat (first | with_reducible exact Below.refl _ _ | with_reducible apply below_alloc | with_reducible refine below_set ?_ (Nat.le_refl _) | with_reducible apply pw_below_drewN | with_reducible apply below_drew1))⟩
end Go.Proofs.Ytnccomklpfbcpaa.P
end

section
/- What the printed functions that set the flips of a counting board come to. -/
namespace Go.Proofs.Ytnccomklpfbcpaa.A
open Go.RowKit Go.Proofs.YtnccomklpfbcpaaW.PrintWords Go.Proofs.YtnccomklpfbcpaaW.PrintLast Go.Proofs.YtnccomklpfbcpaaW.PrintMore Go.Proofs.Ytnccomklpfbcpaa.P Go.Proofs.Ytnccomklpfbcpaa.T
set_option linter.unusedVariables false
set_option linter.unusedSimpArgs false

/-- The cells from place i on, each flip with the state that its row's input says. -/
def setGo (c : Int) (xs : List Int) : Int → List S72 → List S72
  | _, [] => []
  | i, y :: l => (if y.f0 = 3 then ⟨y.f0, rd xs (i / c)⟩ else y) :: setGo c xs (i + 1) l
theorem setGo_length (c : Int) (xs : List Int) : ∀ (l : List S72) (i : Int), (setGo c xs i l).length = l.length := by
  intro l
  induction l with
  | nil => intro i; rfl
  | cons y l ih => intro i; simp [setGo, ih]
theorem div_row {i c n : Int} (h0 : 0 ≤ i) (hc : 1 ≤ c) (h : i < n * c) (hn : n ≤ 100) : wrap64 (Int.tdiv i c) = i / c ∧ 0 ≤ i / c ∧ i / c < n := by
  have h1 : 0 ≤ i / c := Int.ediv_nonneg h0 (by omega)
  have h2 : i / c < n := Int.ediv_lt_of_lt_mul (by omega) h
  rw [Int.tdiv_eq_ediv_of_nonneg h0, wrap_id (by omega) (by omega)]
  exact ⟨rfl, h1, h2⟩
def SetOk (r c : Int) (l : List S72) (xs : List Int) : Prop := BoOk r c l ∧ (1 ≤ (xs.length : Int) ∧ (xs.length : Int) ≤ 4) ∧ (∀ x ∈ xs, 0 ≤ x ∧ x ≤ 1) ∧ r = xs.length ∧ c = 2 * (xs.length : Int) + 1
instance (r c : Int) (l : List S72) (xs : List Int) : Decidable (SetOk r c l xs) := by unfold SetOk; infer_instance
def setB (r c : Int) (l : List S72) (xs : List Int) : Int × Int × List S72 × Bool := if SetOk r c l xs then (r, c, setGo c xs 0 l, true) else (0, 0, [], false)
theorem setB_len (r c : Int) (l : List S72) (xs : List Int) : (setB r c l xs).2.2.1.length ≤ 90 := by
  unfold setB
  split
  · rename_i h; rw [setGo_length]; exact h.1.len
  · simp
theorem cbSet_loop {r c : Int} (xs : List Int) (l : List S72) (hc : 1 ≤ c) (hn : xs.length ≤ 10) (hl : (l.length : Int) = xs.length * c) (hm : l.length ≤ 90) : ∀ (suf pre done : List S72), l = pre ++ suf → done.length = pre.length →
    Ev (fun k => spec_cbSet.l0 k xs l (l.length : Int) (pre.length : Int) r c l r c (done ++ suf)) (r, c, done ++ setGo c xs pre.length suf) := by
  intro suf
  induction suf with
  | nil =>
    intro pre done h1 h2
    subst h1
    exact Ev.step (fun k => spec_cbSet.l0.eq_2 ..) (ev_neg (by simp) (ev_const (by simp [setGo])))
  | cons y suf ih =>
    intro pre done h1 h2
    subst h1
    have hlt := lt_mid pre y suf
    obtain ⟨d1, d2, d3⟩ := div_row (i := (pre.length : Int)) (by omega) hc (hl ▸ hlt) (by omega)
    refine Ev.step (fun k => spec_cbSet.l0.eq_2 ..) (ev_pos hlt (ev_pos (by omega) (ev_pos hlt ?_)))
    rw [rdc_mid]
    have hnx := next_mid pre y suf (by simp only [maxLen]; omega)
    have hrd : rd_T72 (done ++ y :: suf) (pre.length : Int) = y := by rw [← h2]; exact rdc_mid done y suf
    by_cases h3 : y.f0 = 3
    · refine ev_pos h3 (ev_neg (by omega) (ev_pos (by rw [d1]; exact d2) (ev_pos (by rw [d1]; exact d3) (ev_pos (by rw [← h2]; exact lt_mid _ _ _) ?_))))
      rw [hrd, d1, hnx]
      have := ih (pre ++ [y]) (done ++ [⟨y.f0, rd xs (pre.length / c)⟩]) (assoc_mid _ _ _) (by simp [h2])
      rw [show (done ++ y :: suf).set ((pre.length : Int)).toNat ⟨y.f0, rd xs (pre.length / c)⟩ = (done ++ [⟨y.f0, rd xs (pre.length / c)⟩]) ++ suf by rw [← h2]; exact set_mid _ _ _ _]
      simpa [setGo, h3] using this
    · refine ev_neg h3 ?_
      rw [hnx]
      have := ih (pre ++ [y]) (done ++ [y]) (assoc_mid _ _ _) (by simp [h2])
      simpa [setGo, h3] using this
theorem cbSet {r c : Int} (xs : List Int) (l : List S72) (hc : 1 ≤ c) (hn : xs.length ≤ 10) (hl : (l.length : Int) = xs.length * c) (hm : l.length ≤ 90) : Ev (fun k => spec_cbSet.f k r c l xs) (r, c, setGo c xs 0 l) := by
  unfold spec_cbSet.f
  refine ev_bindc (a := (r, c, l)) ?_ (cbSet_loop (r := r) xs l hc hn hl hm l [] [] rfl rfl)
  unfold spec_boOwn.f
  rw [Option.bind_some, if_pos (by simp; omega)]; rfl
theorem areBits_loop (l : List Int) (hm : l.length ≤ maxLen) : ∀ (suf pre : List Int), l = pre ++ suf →
    Ev (fun k => impl_areBits.l0 k l (l.length : Int) (pre.length : Int)) (decide (∀ x ∈ suf, 0 ≤ x ∧ x ≤ 1)) := by
  intro suf
  induction suf with
  | nil =>
    intro pre h1
    subst h1
    exact Ev.step (fun k => impl_areBits.l0.eq_2 ..) (ev_neg (by simp) (ev_const (by simp)))
  | cons y suf ih =>
    intro pre h1
    subst h1
    have hlt := lt_mid pre y suf
    have hrest := ih (pre ++ [y]) (assoc_mid _ _ _)
    refine Ev.step (fun k => impl_areBits.l0.eq_2 ..) (ev_pos hlt (ev_pos (by omega) (ev_pos hlt ?_)))
    rw [rd_mid, next_mid pre y suf hm]
    by_cases h0 : y = 0
    · refine ev_pos h0 ?_
      rw [show decide (∀ x ∈ y :: suf, 0 ≤ x ∧ x ≤ 1) = decide (∀ x ∈ suf, 0 ≤ x ∧ x ≤ 1) by simp [h0]]
      exact hrest
    refine ev_neg h0 ?_
    by_cases h1 : y = 1
    · refine ev_pos h1 ?_
      rw [show decide (∀ x ∈ y :: suf, 0 ≤ x ∧ x ≤ 1) = decide (∀ x ∈ suf, 0 ≤ x ∧ x ≤ 1) by simp [h1]]
      exact hrest
    refine ev_neg h1 (ev_const ?_)
    rw [decide_eq_false]
    intro h
    have := h y List.mem_cons_self
    omega
theorem areBits (l : List Int) (hm : l.length ≤ maxLen) : Ev (fun k => impl_areBits.f k l) (decide (∀ x ∈ l, 0 ≤ x ∧ x ≤ 1)) := by
  unfold impl_areBits.f
  exact areBits_loop l hm l [] rfl
end Go.Proofs.Ytnccomklpfbcpaa.A
end

section
/- Tables: the guard, the copy, the marks, whether a table is good (both programs), and what the sorting board of a good one is. -/
namespace Go.Proofs.Ytnccomklpfbcpaa.A
open Go.RowKit Go.Proofs.YtnccomklpfbcpaaW.PrintWords Go.Proofs.YtnccomklpfbcpaaW.PrintLast Go.Proofs.YtnccomklpfbcpaaW.PrintMore Go.Proofs.Ytnccomklpfbcpaa.P Go.Proofs.Ytnccomklpfbcpaa.T
set_option linter.unusedVariables false
set_option linter.unusedSimpArgs false
theorem szTab (a : Int) (l : List Int) (h : l.length ≤ maxLen) : ∃ s, laws_szTable.f a l 1048576 = some s ∧ (0 ≤ s → l.length ≤ 1048576) := by
  refine ⟨if (1048576 : Int) - (l.length : Int) < 0 then -1 else 1048576 - (l.length : Int), ?_, ?_⟩
  · unfold laws_szTable.f
    rw [szInts l 1048576 (by omega) h]
    by_cases h1 : (1048576 : Int) - (l.length : Int) < 0
    · rw [if_pos h1]; rfl
    · rw [if_neg h1]
      show (if (1048576 : Int) - (l.length : Int) < 0 then some (-1) else some (1048576 - (l.length : Int))) = _
      rw [if_neg h1]
  · intro h1
    by_cases h2 : (1048576 : Int) - (l.length : Int) < 0
    · rw [if_pos h2] at h1; omega
    · omega
theorem toTab (a : Int) (l : List Int) (h : l.length ≤ 1048576) : Ev (fun k => laws_toTable.f k a l) (a, l) := by
  unfold laws_toTable.f
  exact ev_bind (toInts l h) (ev_const rfl)
theorem eqTab (a : Int) (l : List Int) (h : l.length ≤ maxLen) : Ev (fun k => laws_eqTable.f k a l a l) true := by
  unfold laws_eqTable.f
  exact ev_pos rfl (ev_bind (eqInts l h) (ev_pos rfl (ev_const rfl)))
theorem markTab (a : Int) (l : List Int) (h : l.length ≤ 1048576) : Ev (fun k => laws_markTable.f k a l 1) (1 + (l.length : Int), iota 1 l.length) := by
  unfold laws_markTable.f
  exact ev_bind (markInts l 1 (by simp only [maxLen]; omega) (by omega) (by omega)) (ev_const rfl)
/-- A table is good. -/
def TabOk (a : Int) (l : List Int) : Prop := (0 ≤ a ∧ a ≤ 4) ∧ l.length = 2 ^ a.toNat ∧ ∀ x ∈ l, 0 ≤ x ∧ x ≤ 1
instance (a : Int) (l : List Int) : Decidable (TabOk a l) := by unfold TabOk; infer_instance
theorem shlT : ∀ i : Fin 5, shl .i64 1 ((i.val : Nat) : Int) = ((2 ^ i.val : Nat) : Int) := by decide
theorem u64T : ∀ i : Fin 5, IntKind.u64.wrap ((i.val : Nat) : Int) = ((i.val : Nat) : Int) := by decide
theorem ttGood (a : Int) (l : List Int) (hm : l.length ≤ maxLen) : Ev (fun k => spec_ttGood.f k a l) (decide (TabOk a l)) := by
  unfold spec_ttGood.f
  refine ev_bindc (a := decide (0 ≤ a ∧ a ≤ 4)) (by unfold spec_ttInputs.f; rw [in_f]; rfl) ?_
  by_cases h : 0 ≤ a ∧ a ≤ 4
  · obtain ⟨i, rfl⟩ : ∃ i : Fin 5, a = ((i.val : Nat) : Int) := ⟨⟨a.toNat, by omega⟩, by simp; omega⟩
    rw [decide_eq_true h]
    refine ev_pos rfl ?_
    simp only [u64T, shlT]
    refine ev_pos (by omega) ?_
    by_cases h2 : l.length = 2 ^ i.val
    · refine ev_pos (by rw [h2]) (ev_bind (l1All l 0 1 hm) (ev_const ?_))
      congr 1
      simp [TabOk, h, h2]
      try (intro _; omega)
    · refine ev_neg (by omega) (ev_const ?_)
      congr 1
      simp [TabOk, h2]
  · rw [decide_eq_false h]
    exact ev_neg (by decide) (ev_const (by simp only [TabOk, h, false_and, decide_false]))
theorem cbSmall (a : Int) (l : List Int) (hm : l.length ≤ maxLen) : Ev (fun k => spec_cbSmall.f k a l) (decide (TabOk a l ∧ a ≤ 3)) := by
  unfold spec_cbSmall.f
  refine ev_bind (ttGood a l hm) ?_
  by_cases h : TabOk a l
  · exact ev_pos (by simpa using h) (ev_const (by simp [h]))
  · exact ev_neg (by simpa using h) (ev_const (by simp [h]))
theorem isTable (a : Int) (l : List Int) (hm : l.length ≤ maxLen) : Ev (fun k => impl_IsTable.f k a l) (decide (TabOk a l)) := by
  unfold impl_IsTable.f
  by_cases h : 0 ≤ a ∧ a ≤ 4
  · refine ev_pos h.1 (ev_pos h.2 (ev_pos h.1 ?_))
    obtain ⟨i, rfl⟩ : ∃ i : Fin 5, a = ((i.val : Nat) : Int) := ⟨⟨a.toNat, by omega⟩, by simp; omega⟩
    simp only [shlT]
    by_cases h2 : l.length = 2 ^ i.val
    · refine ev_pos (by rw [h2]) (ev_bind (areBits l hm) (ev_const ?_))
      congr 1
      simp [TabOk, h, h2]
      try (intro _; omega)
    · refine ev_neg (by omega) (ev_const ?_)
      congr 1
      simp [TabOk, h2]
  · have hf : decide (TabOk a l) = false := decide_eq_false (fun h_ => h h_.1)
    rw [hf]
    by_cases h1 : a ≥ 0
    · exact ev_pos h1 (ev_neg (by omega) (ev_const rfl))
    · exact ev_neg h1 (ev_const rfl)
theorem TabOk.sb {a : Int} {l : List Int} (h : TabOk a l) (h3 : a ≤ 3) : SbOk l := by
  obtain ⟨⟨h0, h4⟩, hl, hb⟩ := h
  have hbit : ∀ y ∈ l, y = 0 ∨ y = 1 := fun y hy => by have := hb y hy; omega
  have hc : a = 0 ∨ a = 1 ∨ a = 2 ∨ a = 3 := by omega
  have hn : l.length = 1 ∨ l.length = 2 ∨ l.length = 4 ∨ l.length = 8 := by
    rcases hc with rfl | rfl | rfl | rfl <;> simp at hl <;> omega
  exact ⟨⟨by omega, by omega⟩, hbit, within_ok l hn hbit⟩
theorem roundsL_len : ∀ (d r : Nat) (v e : List Int) (cs : List S72), (roundsL d r v e cs).2.2.2.length ≤ cs.length + d * v.length ∧ (roundsL d r v e cs).2.2.1.length = e.length := by
  intro d
  induction d with
  | zero => intro r v e cs; simp [roundsL]
  | succ d ih =>
    intro r v e cs
    have hp := passL_len v.length (r % 2) v e (List.replicate v.length ⟨0, 0⟩)
    simp only [roundsL]
    by_cases h1 : srtL (passL v.length (r % 2) v e (List.replicate v.length ⟨0, 0⟩)).1 = true
    · rw [if_pos h1]
      refine ⟨?_, hp.2.1⟩
      rw [List.length_append, hp.2.2, List.length_replicate, Nat.succ_mul]
      have := Nat.zero_le (d * v.length)
      omega
    · rw [if_neg h1]
      have h2 := ih (r + 1) (passL v.length (r % 2) v e (List.replicate v.length ⟨0, 0⟩)).1 (passL v.length (r % 2) v e (List.replicate v.length ⟨0, 0⟩)).2.1 (cs ++ (passL v.length (r % 2) v e (List.replicate v.length ⟨0, 0⟩)).2.2)
      rw [hp.1, List.length_append, hp.2.2, List.length_replicate, hp.2.1] at h2
      rw [Nat.succ_mul]
      exact ⟨by omega, h2.2⟩
theorem SbOk.len {l : List Int} (h : SbOk l) : (sbQ l).2.2.2.length ≤ 72 ∧ (sbQ l).2.2.1.length ≤ 8 := by
  have h1 := roundsL_len 9 0 l (iota 0 l.length) []
  have h2 := h.1.2
  rw [iota_length] at h1
  simp only [List.length_nil] at h1
  unfold sbQ
  omega
end Go.Proofs.Ytnccomklpfbcpaa.A
end

section
/- FnExactRampsNeeded: the program's RampsNeeded returns what the reference's returns, for all tables that are not greater than 2^20 numbers (as the law's own guard says). -/
namespace Go.Proofs.Ytnccomklpfbcpaa.A
open Go.RowKit Go.Proofs.YtnccomklpfbcpaaW.PrintWords Go.Proofs.YtnccomklpfbcpaaW.PrintLast Go.Proofs.YtnccomklpfbcpaaW.PrintMore Go.Proofs.Ytnccomklpfbcpaa.P Go.Proofs.Ytnccomklpfbcpaa.T
set_option linter.unusedVariables false
set_option linter.unusedSimpArgs false
def resRampsNeeded (a : Int) (l : List Int) : Int × Bool := if TabOk a l ∧ a ≤ 3 then ((((sbQ l).2.2.2.filter fun x => x.f0 ≠ 0).length : Int), true) else (0, false)
theorem rampParts (r c : Int) (l : List S72) (hm : l.length ≤ 90) (hk : ∀ x ∈ l, x.f0 = 0 ∨ x.f0 = 2 ∨ x.f0 = 1) : ∃ ps, Ev (fun k => spec_boParts.f k r c l) ps ∧ ps.length = 8 ∧ ∀ j : Nat, j < 8 → ps.getD j 0 = kindCount j l := by
  obtain ⟨ps, h1, h2, h3⟩ := boParts_loop l (by simp only [maxLen]; omega) l [] (List.replicate 8 0) 0 rfl (fun x hx => by have := hk x hx; omega) (by simp) (by
    intro j hj
    rw [rep0 8 j hj]; omega) (by omega)
  refine ⟨ps, ?_, h2, ?_⟩
  · unfold spec_boParts.f
    exact ev_pos (by omega) h1
  · intro j hj
    rw [h3 j hj, rep0 8 j hj, Int.zero_add]
theorem specRampsNeeded (a : Int) (l : List Int) (hm : l.length ≤ maxLen) : Ev (fun k => spec_RampsNeeded.f k a l) (resRampsNeeded a l) := by
  unfold spec_RampsNeeded.f resRampsNeeded
  refine ev_bind (cbSmall a l hm) ?_
  by_cases h : TabOk a l ∧ a ≤ 3
  case neg =>
    rw [if_neg h]
    exact ev_neg (by simpa using h) (ev_const rfl)
  have hs := h.1.sb h.2
  rw [if_pos h]
  refine ev_pos (by simpa using h) ?_
  have hk : ∀ x ∈ (sbQ l).2.2.2, x.f0 = 0 ∨ x.f0 = 2 ∨ x.f0 = 1 := roundsL_kinds 9 0 l (iota 0 l.length) [] (fun x hx => by cases hx)
  have hl := hs.len.1
  obtain ⟨ps, h1, h2, h3⟩ := rampParts ((sbQ l).1 : Int) (l.length : Int) (sbQ l).2.2.2 (by omega) hk
  unfold spec_cbBoard.f
  refine ev_bind (ev_const (if_pos hs)) (ev_bind h1 (ev_pos (by omega) (ev_pos (by omega) (ev_const ?_))))
  have e1 : rd ps 1 = kindCount 1 (sbQ l).2.2.2 := h3 1 (by omega)
  have e2 : rd ps 2 = kindCount 2 (sbQ l).2.2.2 := h3 2 (by omega)
  have e3 := ramps_count _ hk
  have e4 := List.length_filter_le (fun x : S72 => x.f0 ≠ 0) (sbQ l).2.2.2
  rw [e1, e2, e3, wrap_id (by omega) (by omega)]
theorem implRampsNeeded (a : Int) (l : List Int) (hm : l.length ≤ maxLen) : Ev (fun k => impl_RampsNeeded.f k a l) (resRampsNeeded a l) := by
  unfold impl_RampsNeeded.f resRampsNeeded
  refine ev_bind (isTable a l hm) ?_
  by_cases h : TabOk a l ∧ a ≤ 3
  case neg =>
    rw [if_neg h]
    by_cases h1 : TabOk a l
    · refine ev_pos (by simpa using h1) (Ev.step (fun k => impl_RampsNeeded.j0.eq_2 ..) (ev_pos ?_ (ev_const rfl)))
      exact decide_eq_true (by have h2 : ¬ a ≤ 3 := fun h_ => h ⟨h1, h_⟩; omega)
    · exact ev_neg (by simpa using h1) (Ev.step (fun k => impl_RampsNeeded.j0.eq_2 ..) (ev_pos rfl (ev_const rfl)))
  have hs := h.1.sb h.2
  have hl := hs.len.1
  have h3 : ¬ a > 3 := by have := h.2; omega
  rw [if_pos h]
  refine ev_pos (by simpa using h.1) (Ev.step (fun k => impl_RampsNeeded.j0.eq_2 ..) (ev_neg (by simpa using h.2) ?_))
  unfold impl_sortingBoard.f
  exact ev_bind (ev_const (if_pos hs)) (ev_bind (partsOf _ _ _ (by show (sbQ l).2.2.2.length ≤ 1000; omega)) (ev_const rfl))
theorem lawFnExactRampsNeeded (a0_0 : Int) (A0_1 : Option Addr) (c0_1 : Nat) (l0_1 : List Int) (w : World) (h1 : Kd.C (Kd.int .i64) w A0_1 l0_1.length l0_1) (hc1 : l0_1.length ≤ c0_1) (hm : l0_1.length ≤ maxLen) :
    Calls Try.prog 5 #[.agg #[.int .i64 a0_0, .slice A0_1 l0_1.length c0_1]] w fun e w' => e = .returned (.bool true) ∧ Below w.heap.size w w' := by
  obtain ⟨s, e0, hsm⟩ := szTab a0_0 l0_1 hm
  by_cases hs : s < 0
  · exact FnExactRampsNeeded_small0 0 _ _ _ _ s w h1 hc1 e0 hs
  have g1 := hsm (by omega)
  obtain ⟨K1, e1⟩ := toTab a0_0 l0_1 g1
  obtain ⟨K3, e3⟩ := specRampsNeeded a0_0 l0_1 hm
  obtain ⟨K4, e4⟩ := implRampsNeeded a0_0 l0_1 hm
  obtain ⟨K5, e5⟩ := eqTab a0_0 l0_1 hm
  obtain ⟨⟨t0, t1⟩, ht⟩ : ∃ t, t = resRampsNeeded a0_0 l0_1 := ⟨_, rfl⟩
  rw [← ht] at e3 e4
  exact FnExactRampsNeeded_walk (K1 + K3 + K4 + K5) _ _ _ _ s t0 t1 w h1 hc1 e0 (by omega) (e1 _ (by omega)) (e3 _ (by omega)) (e4 _ (by omega)) (e5 _ (by omega))
end Go.Proofs.Ytnccomklpfbcpaa.A
end

section
/- Opens an argument that a row reads as data into the cells and lists that a contract speaks of: whole numbers, slices, structs of two and three fields. -/
namespace Go.Proofs.Ytnccomklpfbcpaa.Op
open Go.ChangeShapes Go.WideShapes Go.Deep Go.RowKit Go.Proofs.YtnccomklpfbcpaaW.PrintWords
set_option linter.unusedVariables false

/-- What reads as data of type t is of kind d, and meets wf. -/
def Opens (P : Program) (t : TypeId) {α : Type} (d : Kd α) (wf : α → Prop) : Prop :=
  ∀ {H : Type} {enc : TypeId × Value → H} {w : World} {base : Nat} {spare : Nat → Bool} {held : Bool} {fuel : Nat} {cs : List Value} {x : DataW H × List MemPlace},
    DataW.trod enc P w base spare held fuel t cs = some x → ∃ a, d.K w a cs ∧ wf a

def WNum (k : IntKind) (n : Int) : Prop := (Lit.int k n).wf = true
abbrev WInt : Int → Prop := WNum .i64
def WList {α : Type} (wf : α → Prop) (l : List α) : Prop := l.length ≤ maxLen ∧ ∀ a ∈ l, wf a

theorem opens_int {P : Program} {t : TypeId} {k : IntKind} (h : P.underlying t = some (.int k)) : Opens P t (Kd.int k) (WNum k) := by
  intro H enc w base spare held fuel cs x ht
  obtain ⟨n, rfl, _, hw⟩ := DataW.trod_int h ht
  exact ⟨n, rfl, hw⟩

theorem opens_slice {P : Program} {t e : TypeId} {α : Type} {d : Kd α} {wf : α → Prop} (q : Nat) (h : P.underlying t = some (.slice e)) (hc : P.cellsOf e = d.sz) (o : Opens P e d wf) :
    Opens P t (Kd.slice q d) (WList wf) := by
  intro H enc w base spare held fuel cs x ht
  rcases open_slice h ht with ⟨rfl, _⟩ | ⟨a, len, cap, m, n, D, Pl, rfl, hb, hl, hm, hmm, hx, hi⟩
  · exact ⟨[], ⟨none, 0, rfl, Nat.le_refl _, rfl, by simp, fun hn => by simp at hn⟩, by simp [WList]⟩
  · have hlm : len ≤ m := by rw [hmm]; split <;> omega
    have each : ∀ i, i < len → ∃ y cs', w.cells? base (a.add (i * d.sz)) d.sz = some cs' ∧ d.K w y cs' ∧ wf y := by
      intro i hil
      obtain ⟨cs', h1, h2⟩ := hi i (by omega)
      obtain ⟨y, hk, hw⟩ := o h2
      rw [hc] at h1
      exact ⟨y, cs', h1, hk, hw⟩
    have build : ∀ k, k ≤ len → ∃ ys : List α, ys.length = k ∧ (∀ y ∈ ys, wf y) ∧ ∀ j y, ys[j]? = some y → ∃ c, c.length = d.sz ∧ d.K w y c ∧ ∀ i u, c[i]? = some u → w.cell? (a.add (j * d.sz + i)) = some u := by
      intro k
      induction k with
      | zero => exact fun _ => ⟨[], rfl, by simp, by simp⟩
      | succ k ih =>
        intro hk
        obtain ⟨ys, hlen, hwf, hys⟩ := ih (by omega)
        obtain ⟨y, cs', h1, h2, h3⟩ := each k (by omega)
        obtain ⟨_, hcl, hat⟩ := World.cells?_some h1
        refine ⟨ys ++ [y], by simp [hlen], ?_, ?_⟩
        · intro z hz
          rcases List.mem_append.1 hz with hz | hz
          · exact hwf z hz
          · rw [List.mem_singleton.1 hz]; exact h3
        · intro j z hj
          by_cases hjk : j < k
          · rw [List.getElem?_append_left (by omega)] at hj
            exact hys j z hj
          · have hjl : j < (ys ++ [y]).length := (List.getElem?_eq_some_iff.1 hj).1
            simp only [List.length_append, List.length_singleton, hlen] at hjl
            obtain rfl : j = k := by omega
            rw [List.getElem?_append_right (by omega), hlen, Nat.sub_self] at hj
            obtain rfl : y = z := by simpa using hj
            refine ⟨cs', hcl, h2, fun i u hu => ?_⟩
            have hil : i < d.sz := by
              have := (List.getElem?_eq_some_iff.1 hu).1
              omega
            have := hat i hil
            rw [Go.Deep.add_add] at this
            rw [this, hu]
    obtain ⟨ys, hlen, hwf, hys⟩ := build len (Nat.le_refl _)
    have hmx : len ≤ maxLen := by omega
    exact ⟨ys, ⟨some a, cap, by rw [hlen], by rw [hlen]; exact hl, rfl, by rw [hlen]; exact hmx, fun _ => ⟨a, rfl, hys⟩⟩, by rw [hlen]; exact hmx, hwf⟩

theorem opens_iso {P : Program} {t : TypeId} {α β : Type} {d : Kd α} {wf : α → Prop} (f : β → α) (g : α → β) (hg : ∀ a, f (g a) = a) (o : Opens P t d wf) : Opens P t (Kd.iso d f) (fun b => wf (f b)) := by
  intro H enc w base spare held fuel cs x ht
  obtain ⟨a, h1, h2⟩ := o ht
  exact ⟨g a, by show d.K w (f (g a)) cs; rw [hg]; exact h1, by show wf (f (g a)); rw [hg]; exact h2⟩

theorem opens_two {P : Program} {t : TypeId} {f0 f1 : Field} {α β : Type} {a : Kd α} {b : Kd β} {wa : α → Prop} {wb : β → Prop}
    (h : P.underlying t = some (.struct #[f0, f1])) (hc : P.cellsOf t = a.sz + b.sz) (o0 : f0.offset = 0) (o1 : f1.offset = a.sz) (c0 : P.cellsOf f0.type = a.sz) (c1 : P.cellsOf f1.type = b.sz)
    (oa : Opens P f0.type a wa) (ob : Opens P f1.type b wb) : Opens P t (Kd.pair a b) (fun x => wa x.1 ∧ wb x.2) := by
  intro H enc w base spare held fuel cs x ht
  obtain ⟨xs, n, _, _, hlen, hxl, hf⟩ := DataW.trod_struct h ht
  have hx2 : xs.length = 2 := hxl
  have h0 := hf 0 f0 rfl
  have h1 := hf 1 f1 rfl
  rw [List.getElem?_eq_getElem (by omega)] at h0 h1
  obtain ⟨y0, k0, w0⟩ := oa h0
  obtain ⟨y1, k1, w1⟩ := ob h1
  refine ⟨(y0, y1), ⟨_, _, ?_, k0, k1⟩, w0, w1⟩
  rw [hc] at hlen
  rw [o0, o1, c0, c1, List.drop_zero]
  rw [List.take_of_length_le (l := cs.drop a.sz) (by simp; omega), List.take_append_drop]

theorem opens_three {P : Program} {t : TypeId} {f0 f1 f2 : Field} {α β γ : Type} {a : Kd α} {b : Kd β} {c : Kd γ} {wa : α → Prop} {wb : β → Prop} {wc : γ → Prop}
    (h : P.underlying t = some (.struct #[f0, f1, f2])) (hc : P.cellsOf t = a.sz + (b.sz + c.sz)) (o0 : f0.offset = 0) (o1 : f1.offset = a.sz) (o2 : f2.offset = a.sz + b.sz) (c0 : P.cellsOf f0.type = a.sz) (c1 : P.cellsOf f1.type = b.sz) (c2 : P.cellsOf f2.type = c.sz)
    (oa : Opens P f0.type a wa) (ob : Opens P f1.type b wb) (oc : Opens P f2.type c wc) : Opens P t (Kd.pair a (Kd.pair b c)) (fun x => wa x.1 ∧ wb x.2.1 ∧ wc x.2.2) := by
  intro H enc w base spare held fuel cs x ht
  obtain ⟨xs, n, _, _, hlen, hxl, hf⟩ := DataW.trod_struct h ht
  have hx2 : xs.length = 3 := hxl
  have h0 := hf 0 f0 rfl
  have h1 := hf 1 f1 rfl
  have h2 := hf 2 f2 rfl
  rw [List.getElem?_eq_getElem (by omega)] at h0 h1 h2
  obtain ⟨y0, k0, w0⟩ := oa h0
  obtain ⟨y1, k1, w1⟩ := ob h1
  obtain ⟨y2, k2, w2⟩ := oc h2
  rw [hc] at hlen
  refine ⟨(y0, y1, y2), ⟨_, cs.drop a.sz, ?_, k0, ⟨_, _, ?_, k1, k2⟩⟩, w0, w1, w2⟩
  · rw [o0, c0, List.drop_zero, List.take_append_drop]
  · rw [o1, o2, c1, c2]
    rw [List.take_of_length_le (l := cs.drop (a.sz + b.sz)) (by simp; omega), ← List.drop_drop, List.take_append_drop]

/-- A slice among the arguments. -/
theorem open_arg_slice {P : Program} {t : TypeId} {α : Type} {d : Kd α} {wf : α → Prop} {q : Nat} (o : Opens P t (Kd.slice q d) (WList wf)) {H : Type} {enc : TypeId × Value → H} {w : World} {base : Nat} {spare : Nat → Bool} {held : Bool}
    {A : Option Addr} {len cap : Nat} {D : DataW H} {ps : List MemPlace} (h : DataW.Trod enc P w base spare held t (.slice A len cap) D ps) :
    ∃ l : List α, len = l.length ∧ l.length ≤ cap ∧ d.C w A l.length l ∧ WList wf l := by
  obtain ⟨fuel, hf⟩ := h
  obtain ⟨l, ⟨A', c, he, hl, hC⟩, hw⟩ := o hf
  simp only [Value.cells, List.cons.injEq, Value.slice.injEq, and_true] at he
  obtain ⟨rfl, rfl, rfl⟩ := he
  exact ⟨l, rfl, hl, hC, hw⟩
end Go.Proofs.Ytnccomklpfbcpaa.Op
end

section
/- FnExactRampsNeeded: the program and the reference agree for all arguments: the row over the pure statement. -/
namespace Go.Proofs.Ytnccomklpfbcpaa.fnExactRampsNeeded
open Go.ChangeShapes Go.WideShapes Go.ChangeAt Go.RowKit
open Go.ChangeMaps (open_string shut_string)
open Go.Proofs.Ytnccomklpfbcpaa.Op
set_option linter.unusedVariables false
theorem own : ownKnob Try.prog.godebug = none := by kernel_rfl
theorem laidOut : laidOutB Try.prog = true := by kernel_rfl
theorem ty3 : Opens Try.prog 3 (Go.Proofs.YtnccomklpfbcpaaW.PrintWords.Kd.int .i64) (WNum .i64) := opens_int Try.underlying3
theorem ty22 : Opens Try.prog 22 (Go.Proofs.YtnccomklpfbcpaaW.PrintWords.Kd.slice 3 (Go.Proofs.YtnccomklpfbcpaaW.PrintWords.Kd.int .i64)) (WList (WNum .i64)) := opens_slice 3 Try.underlying22 (by kernel_rfl) ty3
theorem tw24 : Opens Try.prog 24 (Go.Proofs.YtnccomklpfbcpaaW.PrintWords.Kd.pair (Go.Proofs.YtnccomklpfbcpaaW.PrintWords.Kd.int .i64) (Go.Proofs.YtnccomklpfbcpaaW.PrintWords.Kd.slice 3 (Go.Proofs.YtnccomklpfbcpaaW.PrintWords.Kd.int .i64))) (fun x : Int × (List Int) => (WNum .i64) x.1 ∧ (WList (WNum .i64)) x.2) := opens_two Try.underlying24 (by kernel_rfl) (by kernel_rfl) (by kernel_rfl) (by kernel_rfl) (by kernel_rfl) ty3 ty22
set_option maxRecDepth 100000 in
theorem lifted (os : Os) (started : os.Started) (H : Type) (enc : TypeId × Value → H) :
    ReturnsInHanded {} Try.checked os 5 .any (Rows.fnExactRampsNeededSpec.pre6 enc Try.prog Try.f5 Rows.fnExactRampsNeededRow.domain false) (Rows.fnExactRampsNeededSpec.post enc Try.prog Try.f5 false true false false) := by
  refine returnsInHanded_of_change_sized (C := Try.checked) own started (by kernel_rfl) Try.func5
    (ChangeSpec.witness6 (enc := enc) (C := Try.checked) false ⟨#[], #[.agg #[.int .i64 0, .slice none 0 0]], []⟩ 8 (by kernel_rfl) (by kernel_rfl) (by kernel_rfl) (by kernel_rfl)) ?_
  intro W base args ds gs before hval0 hW hcnd hsz0 _
  have hsz : (DataW.weightsEach Try.prog (Try.f5.params.toList ++ Rows.fnExactRampsNeededSpec.plain.varTypes Try.prog) (ds ++ gs)).all (· ≤ reachBytes) = true := hsz0
  have hval : ∀ (j : Nat) t v, Try.f5.params[j]? = some t → args[j]? = some v → Value.okWide Try.prog W .any base t v := hval0
  have hW' := hW
  obtain ⟨p, q, hA0, hV, rfl, hfz, hnd⟩ := hW
  have hA : DataW.TrodAll enc Try.prog W 0 (fun _ => true) true Try.f5.params.toList args.toList ds p := hA0
  rw [Try.params5] at hA hval hsz
  obtain ⟨v0, vs0, d0, ds0, p0, q0, hargs, rfl, rfl, h0, r0⟩ := trodAll_cons hA
  obtain ⟨rfl, rfl, rfl⟩ := trodAll_nil r0
  obtain rfl : args = #[v0] := by cases args; simp_all
  obtain ⟨rfl, rfl⟩ := trodVars_none hV
  have k0 := h0
  have lt0 : ∀ x ∈ p0, x.block < W.heap.size := by obtain ⟨m, hm⟩ := k0; exact DataW.trod_lt m _ _ _ hm
  obtain ⟨cs0, rfl, _⟩ := okWide_struct Try.underlying24 (hval 0 24 v0 rfl rfl)
  obtain ⟨csl0⟩ := cs0
  obtain ⟨fu0, hf0⟩ := h0
  obtain ⟨⟨a0_0, l0_1⟩, ⟨x0_0, x0_1, ex0, e0_0, ⟨A0_1, c0_1, e0_1, hc0_1, hC0_1⟩⟩, ⟨w0_0, w0_1⟩⟩ := tw24 hf0
  replace e0_0 : x0_0 = [Value.int .i64 a0_0] := e0_0
  replace e0_1 : x0_1 = [Value.slice A0_1 l0_1.length c0_1] := e0_1
  replace hc0_1 : l0_1.length ≤ c0_1 := hc0_1
  replace hC0_1 : Go.Proofs.YtnccomklpfbcpaaW.PrintWords.Kd.C (Go.Proofs.YtnccomklpfbcpaaW.PrintWords.Kd.int .i64) W A0_1 l0_1.length l0_1 := hC0_1
  replace w0_0 : (WNum .i64) a0_0 := w0_0
  replace w0_1 : (WList (WNum .i64)) l0_1 := w0_1
  subst e0_0 e0_1
  have ex0' : csl0 = [.int .i64 a0_0, .slice A0_1 l0_1.length c0_1] := ex0
  subst ex0'
  clear hA0 hval0 hsz0 hsz
  refine (A.lawFnExactRampsNeeded a0_0 A0_1 c0_1 l0_1 W hC0_1 hc0_1 w0_1.1).mono fun e W' ⟨he, bel⟩ => ?_
  subst he
  exact ⟨_, rfl, _, _, _, [], _, [], hW', trodAll_mk1 (shut_bool Try.underlying4 _), (trodAll_cons_mk (Below.trod laidOut (by kernel_rfl) (of_decide_eq_true (by kernel_rfl)) k0 bel lt0) trodAll_mk0), rfl, bel.frame _, fun h => by cases h⟩
theorem over : Rows.fnExactRampsNeededRow.holds Try.pinned (OpenSpec.ofChange Rows.fnExactRampsNeededSpec) :=
  OpenClaim.holds_of_wide 5 Try.f5 rfl rfl rfl rfl rfl rfl rfl ⟨rfl, rfl, rfl, rfl, rfl⟩ rfl rfl rfl rfl rfl (by kernel_rfl) Try.func5 (by kernel_rfl)
    (of_decide_eq_true (by kernel_rfl)) (by unfold Func.isWrapper; first | (rw [if_pos (by decide +kernel)]; kernel_rfl) | (rw [if_neg (by decide +kernel)]; exact ⟨rfl, rfl⟩))
    (fun os started H enc _ => lifted os started H enc)
end Go.Proofs.Ytnccomklpfbcpaa.fnExactRampsNeeded
namespace Go.Proofs.Ytnccomklpfbcpaa
/-- The row. -/
theorem fnExactRampsNeeded_holds : Rows.FnExactRampsNeededSaid := fnExactRampsNeeded.over
end Go.Proofs.Ytnccomklpfbcpaa
end
