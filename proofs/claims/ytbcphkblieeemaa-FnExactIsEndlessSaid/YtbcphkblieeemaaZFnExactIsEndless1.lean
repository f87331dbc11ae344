/- FnExactIsEndless: texts of this claim in one: WalkFnExactIsEndless, LawRunIsEndless, Op, RowFnExactIsEndless. -/
import Derived.Test.YtbcphkblieeemaaZFnExactIsEndless0
import Derived.Test.YtbcphkblieeemaaYFnExactIsEndlessPx59
import Derived.Test.YtbcphkblieeemaaYFnExactIsEndlessPx61
import Derived.Test.YtbcphkblieeemaaYFnExactIsEndlessPx9
import Derived.Test.YtbcphkblieeemaaOwnW
import Derived.Test.YtbcphkblieeemaaYFnExactIsEndlessARun
import Derived.Test.YtbcphkblieeemaaYFnExactIsEndlessAGrow0
import Derived.Deep.Slices
import Derived.ChangeSame
import Derived.ChangeArms
import Derived.Test.YtbcphkblieeemaaWWords
import Derived.Test.YtbcphkblieeemaaRows
import Derived.WalkKit
import Derived.ProofKit
import Derived.OpenShut
import Derived.ShutString
import Derived.ChangeOld
import Derived.Below
import Derived.SizedLaws
section
/- The walk of FnExactIsEndless along the one way on which all its tests succeed, and the short ones where an argument is too great. -/
namespace Go.Proofs.Ytbcphkblieeemaa.P
open Go.RowKit Go.Proofs.YtbcphkblieeemaaW.PrintWords Go.Proofs.YtbcphkblieeemaaW.PrintLast Go.Proofs.YtbcphkblieeemaaW.PrintMore Go.Proofs.Ytbcphkblieeemaa
set_option linter.unusedVariables false
set_option linter.unusedSimpArgs false
set_option maxHeartbeats 4000000 in
set_option maxRecDepth 100000 in
theorem FnExactIsEndless_small0 (k : Nat) (A0 : Option Addr) (c0 : Nat) (l0 : List S57) (a1_0 : Int) (A1_1 : Option Addr) (c1_1 : Nat) (l1_1 : List (Int)) (a2 : Int) (a3 : Int) (z_aL : Int) (w : World)
    (hr0 : Kd.C k57 w A0 l0.length l0) (hc0 : l0.length ≤ c0)
    (hr1_1 : Kd.C (Kd.int .i64) w A1_1 l1_1.length l1_1) (hc1_1 : l1_1.length ≤ c1_1)
    (e_sz_aL : laws_szInstructionS.f l0 1048576 = some z_aL)
    (hz_aL : z_aL < 0) :
    Calls Try.prog 10 #[.slice A0 l0.length c0, .agg #[.int .i64 a1_0, .slice A1_1 l1_1.length c1_1], .int .i64 a2, .int .i64 a3] w fun e w' => e = .returned (.bool true) ∧ Below w.heap.size w w' := by
  have hu31 := Try.underlying31
  have hu25 := Try.underlying25
  have hzb_aL : decide (z_aL < 0) = true := decide_eq_true (by omega)
  have HR0 := Aside0.mk hr0
  clear hr0
  have HC0 := Aside0.mk hc0
  clear hc0
  have HR1_1 := Aside0.mk hr1_1
  clear hr1_1
  have HC1_1 := Aside0.mk hc1_1
  clear hc1_1
  have He_sz_aL := Aside0.mk e_sz_aL
  clear e_sz_aL
  have HB := Aside0.mk (Below.refl w.heap.size w)
  go_enter Try.func10, Try.ntmps10
  go_wp2_with fail
  refine (laws_szInstructionS.calls _ _ _ _ _ _ (Kd.C_below HR0.out (below_step HB.out (by repeat (first | with_reducible exact Below.refl _ _ | with_reducible apply below_alloc | with_reducible refine below_set ?_ (Nat.le_refl _) | with_reducible apply pw_below_drewN | with_reducible apply below_drew1)))) HC0.out He_sz_aL.out).mono ?_
  rintro e _ ⟨rfl, ⟨nz4_, rfl⟩⟩
  go_wp2_with fail
  go_ret
  exact ⟨rfl, below_step HB.out (by repeat (first | with_reducible exact Below.refl _ _ | with_reducible apply below_alloc | with_reducible refine below_set ?_ (Nat.le_refl _) | with_reducible apply pw_below_drewN | with_reducible apply below_drew1))⟩
set_option maxHeartbeats 4000000 in
set_option maxRecDepth 100000 in
theorem FnExactIsEndless_small1 (k : Nat) (A0 : Option Addr) (c0 : Nat) (l0 : List S57) (a1_0 : Int) (A1_1 : Option Addr) (c1_1 : Nat) (l1_1 : List (Int)) (a2 : Int) (a3 : Int) (z_aL : Int) (z_aS : Int) (w : World)
    (hr0 : Kd.C k57 w A0 l0.length l0) (hc0 : l0.length ≤ c0)
    (hr1_1 : Kd.C (Kd.int .i64) w A1_1 l1_1.length l1_1) (hc1_1 : l1_1.length ≤ c1_1)
    (e_sz_aL : laws_szInstructionS.f l0 1048576 = some z_aL)
    (hz_aL : 0 ≤ z_aL)
    (e_sz_aS : laws_szCounterState.f a1_0 l1_1 z_aL = some z_aS)
    (hz_aS : z_aS < 0) :
    Calls Try.prog 10 #[.slice A0 l0.length c0, .agg #[.int .i64 a1_0, .slice A1_1 l1_1.length c1_1], .int .i64 a2, .int .i64 a3] w fun e w' => e = .returned (.bool true) ∧ Below w.heap.size w w' := by
  have hu31 := Try.underlying31
  have hu25 := Try.underlying25
  have hzb_aS : decide (z_aS < 0) = true := decide_eq_true (by omega)
  have hzb_aL : decide (z_aL < 0) = false := decide_eq_false (by omega)
  have HR0 := Aside0.mk hr0
  clear hr0
  have HC0 := Aside0.mk hc0
  clear hc0
  have HR1_1 := Aside0.mk hr1_1
  clear hr1_1
  have HC1_1 := Aside0.mk hc1_1
  clear hc1_1
  have He_sz_aL := Aside0.mk e_sz_aL
  clear e_sz_aL
  have He_sz_aS := Aside0.mk e_sz_aS
  clear e_sz_aS
  have HB := Aside0.mk (Below.refl w.heap.size w)
  go_enter Try.func10, Try.ntmps10
  go_wp2_with fail
  refine (laws_szInstructionS.calls _ _ _ _ _ _ (Kd.C_below HR0.out (below_step HB.out (by repeat (first | with_reducible exact Below.refl _ _ | with_reducible apply below_alloc | with_reducible refine below_set ?_ (Nat.le_refl _) | with_reducible apply pw_below_drewN | with_reducible apply below_drew1)))) HC0.out He_sz_aL.out).mono ?_
  rintro e _ ⟨rfl, ⟨nz4_, rfl⟩⟩
  go_wp2_with fail
  refine (laws_szCounterState.calls _ _ _ _ _ _ _ (Kd.C_below HR1_1.out (below_step HB.out (by repeat (first | with_reducible exact Below.refl _ _ | with_reducible apply below_alloc | with_reducible refine below_set ?_ (Nat.le_refl _) | with_reducible apply pw_below_drewN | with_reducible apply below_drew1)))) HC1_1.out He_sz_aS.out).mono ?_
  rintro e w1 ⟨rfl, hb⟩
  have BK_aS := Aside0.mk (blk_below (g := w.heap.size) (o := .cells #[.int .i64 a1_0, .slice A1_1 l1_1.length c1_1] 25 (0, 0)) (by (repeat (first | with_reducible refine blk_drewN ?_ _ | with_reducible refine blk_drew ?_)); exact (blk_new _ _)) hb)
  have HG_BK_aS : Aside0 (w.heap.size < w1.heap.size) := ⟨blk_lt BK_aS.out⟩
  have HW := Aside0.mk (below_step (w := w) (by repeat (first | with_reducible exact Below.refl _ _ | with_reducible apply below_alloc | with_reducible refine below_set ?_ (Nat.le_refl _) | with_reducible apply pw_below_drewN | with_reducible apply below_drew1)) hb)
  have HZ1 : Aside0 (w.heap.size ≤ w1.heap.size) := ⟨HW.out.size⟩
  replace HB := Aside0.mk (below_step HB.out HW.out)
  clear hb HW
  have czBK_aS_0 : w1.cell? ⟨w.heap.size, 0, none⟩ = some (.int .i64 a1_0) := (blk_cell BK_aS.out 0).trans rfl
  have czBK_aS_1 : w1.cell? ⟨w.heap.size, 1, none⟩ = some (.slice A1_1 l1_1.length c1_1) := (blk_cell BK_aS.out 1).trans rfl
  go_wp2_with fail
  go_ret
  exact ⟨rfl, below_step HB.out (by repeat (first | with_reducible exact Below.refl _ _ | with_reducible apply below_alloc | with_reducible refine below_set ?_ (Nat.le_refl _) | with_reducible apply pw_below_drewN | with_reducible apply below_drew1))⟩
set_option maxHeartbeats 4000000 in
set_option maxRecDepth 100000 in
theorem FnExactIsEndless_walk (k : Nat) (A0 : Option Addr) (c0 : Nat) (l0 : List S57) (a1_0 : Int) (A1_1 : Option Addr) (c1_1 : Nat) (l1_1 : List (Int)) (a2 : Int) (a3 : Int) (z_aL : Int) (z_aS : Int) (r0 : Bool) (r1 : Bool) (ml0 : List S55) (w : World)
    (hr0 : Kd.C k57 w A0 l0.length l0) (hc0 : l0.length ≤ c0)
    (hr1_1 : Kd.C (Kd.int .i64) w A1_1 l1_1.length l1_1) (hc1_1 : l1_1.length ≤ c1_1)
    (e_sz_aL : laws_szInstructionS.f l0 1048576 = some z_aL)
    (hz_aL : 0 ≤ z_aL)
    (e_sz_aS : laws_szCounterState.f a1_0 l1_1 z_aL = some z_aS)
    (hz_aS : 0 ≤ z_aS)
    (e_to_aL : laws_toInstructionS.f k l0 = some ml0)
    (e_to_aS : laws_toCounterState.f k a1_0 l1_1 = some (a1_0, l1_1))
    (e_spec : spec_IsEndless.f k ml0 a1_0 l1_1 a2 a3 = some (r0, r1))
    (e_impl : impl_IsEndless.f k ml0 a1_0 l1_1 a2 a3 = some (r0, r1))
    (e_eq_x0 : laws_eqInstructionS.f k ml0 ml0 = some true)
    (e_eq_x1 : laws_eqCounterState.f k a1_0 l1_1 a1_0 l1_1 = some true) :
    Calls Try.prog 10 #[.slice A0 l0.length c0, .agg #[.int .i64 a1_0, .slice A1_1 l1_1.length c1_1], .int .i64 a2, .int .i64 a3] w fun e w' => e = .returned (.bool true) ∧ Below w.heap.size w w' := by
  have hu31 := Try.underlying31
  have hu25 := Try.underlying25
  have hzb_aS : decide (z_aS < 0) = false := decide_eq_false (by omega)
  have hzb_aL : decide (z_aL < 0) = false := decide_eq_false (by omega)
  have HR0 := Aside0.mk hr0
  clear hr0
  have HC0 := Aside0.mk hc0
  clear hc0
  have HR1_1 := Aside0.mk hr1_1
  clear hr1_1
  have HC1_1 := Aside0.mk hc1_1
  clear hc1_1
  have He_sz_aL := Aside0.mk e_sz_aL
  clear e_sz_aL
  have He_sz_aS := Aside0.mk e_sz_aS
  clear e_sz_aS
  have He_to_aL := Aside0.mk e_to_aL
  clear e_to_aL
  have He_to_aS := Aside0.mk e_to_aS
  clear e_to_aS
  have He_spec := Aside0.mk e_spec
  clear e_spec
  have He_impl := Aside0.mk e_impl
  clear e_impl
  have He_eq_x0 := Aside0.mk e_eq_x0
  clear e_eq_x0
  have He_eq_x1 := Aside0.mk e_eq_x1
  clear e_eq_x1
  have HB := Aside0.mk (Below.refl w.heap.size w)
  go_enter Try.func10, Try.ntmps10
  go_wp2_with fail
  refine (laws_szInstructionS.calls _ _ _ _ _ _ (Kd.C_below HR0.out (below_step HB.out (by repeat (first | with_reducible exact Below.refl _ _ | with_reducible apply below_alloc | with_reducible refine below_set ?_ (Nat.le_refl _) | with_reducible apply pw_below_drewN | with_reducible apply below_drew1)))) HC0.out He_sz_aL.out).mono ?_
  rintro e _ ⟨rfl, ⟨nz4_, rfl⟩⟩
  go_wp2_with fail
  refine (laws_szCounterState.calls _ _ _ _ _ _ _ (Kd.C_below HR1_1.out (below_step HB.out (by repeat (first | with_reducible exact Below.refl _ _ | with_reducible apply below_alloc | with_reducible refine below_set ?_ (Nat.le_refl _) | with_reducible apply pw_below_drewN | with_reducible apply below_drew1)))) HC1_1.out He_sz_aS.out).mono ?_
  rintro e w1 ⟨rfl, hb⟩
  have BK_aS := Aside0.mk (blk_below (g := w.heap.size) (o := .cells #[.int .i64 a1_0, .slice A1_1 l1_1.length c1_1] 25 (0, 0)) (by (repeat (first | with_reducible refine blk_drewN ?_ _ | with_reducible refine blk_drew ?_)); exact (blk_new _ _)) hb)
  have HG_BK_aS : Aside0 (w.heap.size < w1.heap.size) := ⟨blk_lt BK_aS.out⟩
  have HW := Aside0.mk (below_step (w := w) (by repeat (first | with_reducible exact Below.refl _ _ | with_reducible apply below_alloc | with_reducible refine below_set ?_ (Nat.le_refl _) | with_reducible apply pw_below_drewN | with_reducible apply below_drew1)) hb)
  have HZ1 : Aside0 (w.heap.size ≤ w1.heap.size) := ⟨HW.out.size⟩
  replace HB := Aside0.mk (below_step HB.out HW.out)
  clear hb HW
  have czBK_aS_0 : w1.cell? ⟨w.heap.size, 0, none⟩ = some (.int .i64 a1_0) := (blk_cell BK_aS.out 0).trans rfl
  have czBK_aS_1 : w1.cell? ⟨w.heap.size, 1, none⟩ = some (.slice A1_1 l1_1.length c1_1) := (blk_cell BK_aS.out 1).trans rfl
  go_wp2_with fail
  clear czBK_aS_0 czBK_aS_1
  refine start_ (n := 12) (S := fun w' => w'.cell? ⟨w.heap.size, 0, none⟩ = some (.int .i64 a1_0) ∧ w'.cell? ⟨w.heap.size, 1, none⟩ = some (.slice A1_1 l1_1.length c1_1)) (ds := []) #[false, false, false, false, false, false, false, false, false, false, false, false] (by kernel_rfl) rfl rfl ⟨(blk_cell BK_aS.out 0).trans rfl, (blk_cell BK_aS.out 1).trans rfl⟩ (fun hHeld => ?_)
  refine Own.anew_ (wN := w1) (by repeat (first | with_reducible exact Below.refl _ _ | with_reducible apply below_alloc | with_reducible refine below_set ?_ (Nat.le_refl _) | with_reducible apply pw_below_drewN | with_reducible apply below_drew1)) hHeld (fun w2 hb hHeld => ?_)
  have HW := Aside0.mk hb
  have HZ2 : Aside0 (w1.heap.size ≤ w2.heap.size) := ⟨HW.out.size⟩
  replace HB := Aside0.mk (below_step HB.out HW.out)
  replace BK_aS := Aside0.mk (blk_below BK_aS.out HW.out)
  clear hb HW
  refine pure_ (i := 0) (N := some 27) (v := ?_) (a' := ?_) #[true, false, false, false, false, false, false, false, false, false, false, false] rfl rfl (by kernel_rfl) (fun _ _ _ h => h) (Or.inl ⟨by rfl, ?_⟩) ?_ ?_
  rotate_left
  · intro w'
    go_simp
    with_reducible rfl
  rotate_left
  · simp only [Act.put, List.setIfInBounds_toArray, List.set_cons_zero, List.set_cons_succ, i64_w, i32_w]
    rfl
  refine pure_ (i := 4) (N := some 31) (v := ?_) (a' := ?_) #[true, false, false, false, true, false, false, false, false, false, false, false] rfl rfl (by kernel_rfl) (fun _ _ _ h => h) (Or.inl ⟨by rfl, ?_⟩) ?_ ?_
  rotate_left
  · intro w'
    go_simp
    with_reducible rfl
  rotate_left
  · simp only [Act.put, List.setIfInBounds_toArray, List.set_cons_zero, List.set_cons_succ, i64_w, i32_w]
    rfl
  refine pure_ (i := 5) (N := some 32) (v := ?_) (a' := ?_) #[true, false, false, false, true, true, false, false, false, false, false, false] rfl rfl (by kernel_rfl) (fun _ _ _ h => h) (Or.inl ⟨by rfl, ?_⟩) ?_ ?_
  rotate_left
  · intro w'
    go_simp
    with_reducible rfl
  rotate_left
  · simp only [Act.put, List.setIfInBounds_toArray, List.set_cons_zero, List.set_cons_succ, i64_w, i32_w]
    rfl
  refine take_ (i := 2) (N := some 29) (v := ?_) (a' := ?_) #[true, false, true, false, true, true, false, false, false, false, false, false] rfl rfl (by kernel_rfl) (fun _ _ _ h => h) (Or.inl ⟨by rfl, ?_⟩) hHeld ?_ ?_
  rotate_left
  · rintro w' ⟨s0_, s1_⟩
    go_simp
    with_reducible rfl
  rotate_left
  · simp only [Act.put, List.setIfInBounds_toArray, List.set_cons_zero, List.set_cons_succ, i64_w, i32_w]
    rfl
  have HP_ : Aside0 (Below w2.heap.size w2 w2) := ⟨Below.refl _ _⟩
  refine one_ (i := 1) (N := some 28) #[true, true, true, false, true, true, false, false, false, false, false, false] rfl rfl (by kernel_rfl) (by decide) (fun K hK => ?_)
  refine goes_ Try.func14 (by kernel_rfl) rfl #[.slice A0 l0.length c0] (by rfl) rfl rfl (by (try simp only [List.map_toArray, List.map_cons, List.map_nil]); first | done | rfl | (simp only [List.length_drop, List.length_take]; rfl)) ?_
  with_reducible refine (laws_toInstructionS.calls k _ _ _ _ _ (Kd.C_below HR0.out (below_step HB.out HP_.out)) HC0.out He_to_aL.out).mono ?_
  rintro e wq0 ⟨vq0, rfl, hf, hb⟩
  refine ⟨_, rfl, ?_⟩
  have FQ0 := Aside0.mk (Kd.R_lower hf HP_.out.size)
  replace HP_ := Aside0.mk (below_step HP_.out hb)
  clear hf hb
  obtain ⟨Aq0_, cq0_, eq0_⟩ := Kd.R_slice FQ0.out
  subst eq0_
  refine hK.out _ _ ⟨(blk_cell (blk_below BK_aS.out HP_.out) 0).trans rfl, (blk_cell (blk_below BK_aS.out HP_.out) 1).trans rfl⟩ (fun hHeld => ?_)
  clear hK K
  refine norm_ (a' := ?_) ?_ ?_
  rotate_left
  · show Act.put _ (some 28) _ = _
    simp only [Act.put, List.setIfInBounds_toArray, List.set_cons_zero, List.set_cons_succ, i64_w, i32_w]
    rfl
  refine one_ (i := 3) (N := some 30) #[true, true, true, true, true, true, false, false, false, false, false, false] rfl rfl (by kernel_rfl) (by decide) (fun K hK => ?_)
  refine goes_ Try.func15 (by kernel_rfl) rfl #[.agg #[.int .i64 a1_0, .slice A1_1 l1_1.length c1_1]] (by rfl) rfl rfl (by (try simp only [List.map_toArray, List.map_cons, List.map_nil]); first | done | rfl | (simp only [List.length_drop, List.length_take]; rfl)) ?_
  with_reducible refine (laws_toCounterState.calls k _ _ _ _ _ _ _ (Kd.C_below HR1_1.out (below_step HB.out HP_.out)) HC1_1.out He_to_aS.out).mono ?_
  rintro e wq1 ⟨vq1, rfl, hf, hb⟩
  refine ⟨_, rfl, ?_⟩
  have FQ1 := Aside0.mk (Kd.R_lower hf HP_.out.size)
  replace HP_ := Aside0.mk (below_step HP_.out hb)
  replace FQ0 := Aside0.mk (Kd.R_below FQ0.out hb)
  clear hf hb
  obtain ⟨Aq1_, cq1_, eq1_⟩ := Kd.R_slice FQ1.out
  subst eq1_
  refine hK.out _ _ ⟨(blk_cell (blk_below BK_aS.out HP_.out) 0).trans rfl, (blk_cell (blk_below BK_aS.out HP_.out) 1).trans rfl⟩ (fun hHeld => ?_)
  clear hK K
  refine norm_ (a' := ?_) ?_ ?_
  rotate_left
  · show Act.put _ (some 30) _ = _
    simp only [Act.put, List.setIfInBounds_toArray, List.set_cons_zero, List.set_cons_succ, i64_w, i32_w]
    rfl
  refine one_ (i := 6) (N := some 33) #[true, true, true, true, true, true, true, false, false, false, false, false] rfl rfl (by kernel_rfl) (by decide) (fun K hK => ?_)
  refine goes_ Try.func37 (by kernel_rfl) rfl #[.slice Aq0_ ml0.length cq0_, .agg #[.int .i64 a1_0, .slice Aq1_ l1_1.length cq1_], .int .i64 a2, .int .i64 a3] (by rfl) rfl rfl (by (try simp only [List.map_toArray, List.map_cons, List.map_nil]); first | done | rfl | (simp only [List.length_drop, List.length_take]; rfl)) ?_
  with_reducible refine (spec_IsEndless.calls k _ _ _ _ _ _ _ _ _ _ _ _ (Kd.C_below (Kd.R_reads' FQ0.out).2.2 (Below.refl _ _)) (Kd.R_reads' FQ0.out).2.1 (Kd.C_below (Kd.R_reads' FQ1.out).2.2 (Below.refl _ _)) (Kd.R_reads' FQ1.out).2.1 He_spec.out).mono ?_
  rintro e w3 ⟨rfl, hb⟩
  refine ⟨_, rfl, ?_⟩
  replace HP_ := Aside0.mk (below_step HP_.out hb)
  replace FQ0 := Aside0.mk (Kd.R_below FQ0.out hb)
  replace FQ1 := Aside0.mk (Kd.R_below FQ1.out hb)
  clear hb
  refine hK.out _ _ ⟨(blk_cell (blk_below BK_aS.out HP_.out) 0).trans rfl, (blk_cell (blk_below BK_aS.out HP_.out) 1).trans rfl⟩ (fun hHeld => ?_)
  clear hK K
  refine norm_ (a' := ?_) ?_ ?_
  rotate_left
  · show Act.put _ (some 33) _ = _
    simp only [Act.put, List.setIfInBounds_toArray, List.set_cons_zero, List.set_cons_succ, i64_w, i32_w]
    rfl
  refine pure_ (i := 7) (N := some 26) (v := ?_) (a' := ?_) #[true, true, true, true, true, true, true, true, false, false, false, false] rfl rfl (by kernel_rfl) (fun _ _ _ h => h) (Or.inl ⟨by rfl, ?_⟩) ?_ ?_
  rotate_left
  · intro w'
    go_simp
    with_reducible rfl
  rotate_left
  · simp only [Act.put, List.setIfInBounds_toArray, List.set_cons_zero, List.set_cons_succ, i64_w, i32_w]
    rfl
  refine pure_ (i := 8) (N := some 34) (v := ?_) (a' := ?_) #[true, true, true, true, true, true, true, true, true, false, false, false] rfl rfl (by kernel_rfl) (fun _ _ _ h => h) (Or.inl ⟨by rfl, ?_⟩) ?_ ?_
  rotate_left
  · intro w'
    go_simp
    with_reducible rfl
  rotate_left
  · simp only [Act.put, List.setIfInBounds_toArray, List.set_cons_zero, List.set_cons_succ, i64_w, i32_w]
    rfl
  refine pure_ (i := 9) (N := some 35) (v := ?_) (a' := ?_) #[true, true, true, true, true, true, true, true, true, true, false, false] rfl rfl (by kernel_rfl) (fun _ _ _ h => h) (Or.inl ⟨by rfl, ?_⟩) ?_ ?_
  rotate_left
  · intro w'
    go_simp
    with_reducible rfl
  rotate_left
  · simp only [Act.put, List.setIfInBounds_toArray, List.set_cons_zero, List.set_cons_succ, i64_w, i32_w]
    rfl
  refine pure_ (i := 10) (N := some 10) (v := ?_) (a' := ?_) #[true, true, true, true, true, true, true, true, true, true, true, false] rfl rfl (by kernel_rfl) (fun _ _ _ h => h) (Or.inl ⟨by rfl, ?_⟩) ?_ ?_
  rotate_left
  · intro w'
    go_simp
    with_reducible rfl
  rotate_left
  · simp only [Act.put, List.setIfInBounds_toArray, List.set_cons_zero, List.set_cons_succ, i64_w, i32_w]
    rfl
  refine pure_ (i := 11) (N := some 11) (v := ?_) (a' := ?_) #[true, true, true, true, true, true, true, true, true, true, true, true] rfl rfl (by kernel_rfl) (fun _ _ _ h => h) (Or.inl ⟨by rfl, ?_⟩) ?_ ?_
  rotate_left
  · intro w'
    go_simp
    with_reducible rfl
  rotate_left
  · simp only [Act.put, List.setIfInBounds_toArray, List.set_cons_zero, List.set_cons_succ, i64_w, i32_w]
    rfl
  have hb := HP_.out
  clear HP_
  have HN := Aside0.mk HB.out.size
  have HW := Aside0.mk (below_step (w := w2) (by repeat (first | with_reducible exact Below.refl _ _ | with_reducible apply below_alloc | with_reducible refine below_set ?_ (Nat.le_refl _) | with_reducible apply pw_below_drewN | with_reducible apply below_drew1)) hb)
  have HZ3 : Aside0 (w2.heap.size ≤ w3.heap.size) := ⟨HW.out.size⟩
  replace HB := Aside0.mk (below_step HB.out HW.out)
  replace BK_aS := Aside0.mk (blk_below BK_aS.out HW.out)
  clear hb HW HN hHeld
  refine done_ (by kernel_rfl) ?_
  have czBK_aS_0 : w3.cell? ⟨w.heap.size, 0, none⟩ = some (.int .i64 a1_0) := (blk_cell BK_aS.out 0).trans rfl
  have czBK_aS_1 : w3.cell? ⟨w.heap.size, 1, none⟩ = some (.slice A1_1 l1_1.length c1_1) := (blk_cell BK_aS.out 1).trans rfl
  go_wp2_with fail
  refine (laws_toInstructionS.calls k _ _ _ _ _ (Kd.C_below HR0.out (below_step HB.out (by repeat (first | with_reducible exact Below.refl _ _ | with_reducible apply below_alloc | with_reducible refine below_set ?_ (Nat.le_refl _) | with_reducible apply pw_below_drewN | with_reducible apply below_drew1)))) HC0.out He_to_aL.out).mono ?_
  rintro e w4 ⟨vx0_0, rfl, hf2, hb⟩
  clear czBK_aS_0 czBK_aS_1
  have HN := Aside0.mk HB.out.size
  have HW := Aside0.mk (below_step (w := w3) (by repeat (first | with_reducible exact Below.refl _ _ | with_reducible apply below_alloc | with_reducible refine below_set ?_ (Nat.le_refl _) | with_reducible apply pw_below_drewN | with_reducible apply below_drew1)) hb)
  have HZ4 : Aside0 (w3.heap.size ≤ w4.heap.size) := ⟨HW.out.size⟩
  replace HB := Aside0.mk (below_step HB.out HW.out)
  replace BK_aS := Aside0.mk (blk_below BK_aS.out HW.out)
  obtain ⟨lo2_, F2, HLO2⟩ := Own.R_iv (wN := w3) rfl hf2 HN.out (by repeat (first | with_reducible exact Below.refl _ _ | with_reducible apply below_alloc | with_reducible refine below_set ?_ (Nat.le_refl _) | with_reducible apply pw_below_drewN | with_reducible apply below_drew1)) hb
  obtain ⟨A2_, c2_, e2_⟩ := Kd.R_slice F2.out
  subst e2_
  clear hb HW HN hf2
  have czBK_aS_0 : w4.cell? ⟨w.heap.size, 0, none⟩ = some (.int .i64 a1_0) := (blk_cell BK_aS.out 0).trans rfl
  have czBK_aS_1 : w4.cell? ⟨w.heap.size, 1, none⟩ = some (.slice A1_1 l1_1.length c1_1) := (blk_cell BK_aS.out 1).trans rfl
  go_wp2_with fail
  refine (laws_toCounterState.calls k _ _ _ _ _ _ _ (Kd.C_below HR1_1.out (below_step HB.out (by repeat (first | with_reducible exact Below.refl _ _ | with_reducible apply below_alloc | with_reducible refine below_set ?_ (Nat.le_refl _) | with_reducible apply pw_below_drewN | with_reducible apply below_drew1)))) HC1_1.out He_to_aS.out).mono ?_
  rintro e w5 ⟨vx1_0, rfl, hf3, hb⟩
  clear czBK_aS_0 czBK_aS_1
  have HN := Aside0.mk HB.out.size
  have HW := Aside0.mk (below_step (w := w4) (by repeat (first | with_reducible exact Below.refl _ _ | with_reducible apply below_alloc | with_reducible refine below_set ?_ (Nat.le_refl _) | with_reducible apply pw_below_drewN | with_reducible apply below_drew1)) hb)
  have HZ5 : Aside0 (w4.heap.size ≤ w5.heap.size) := ⟨HW.out.size⟩
  replace HB := Aside0.mk (below_step HB.out HW.out)
  replace F2 := Aside0.mk (Kd.R_below F2.out HW.out)
  replace BK_aS := Aside0.mk (blk_below BK_aS.out HW.out)
  obtain ⟨lo3_, F3, HLO3⟩ := Own.R_iv (wN := w4) rfl hf3 HN.out (by repeat (first | with_reducible exact Below.refl _ _ | with_reducible apply below_alloc | with_reducible refine below_set ?_ (Nat.le_refl _) | with_reducible apply pw_below_drewN | with_reducible apply below_drew1)) hb
  obtain ⟨A3_, c3_, e3_⟩ := Kd.R_slice F3.out
  subst e3_
  clear hb HW HN hf3
  have czBK_aS_0 : (w5.alloc (.cells #[.int .i64 a1_0, .slice A3_ l1_1.length c3_] 31)).cell? ⟨w.heap.size, 0, none⟩ = some (.int .i64 a1_0) := (blk_cell (blk_alloc BK_aS.out _) 0).trans rfl
  have czBK_aS_1 : (w5.alloc (.cells #[.int .i64 a1_0, .slice A3_ l1_1.length c3_] 31)).cell? ⟨w.heap.size, 1, none⟩ = some (.slice A1_1 l1_1.length c1_1) := (blk_cell (blk_alloc BK_aS.out _) 1).trans rfl
  go_wp2_with fail
  refine (impl_IsEndless.calls k _ _ _ _ _ _ _ _ _ _ _ _ (Kd.C_below (Kd.R_reads' F2.out).2.2 (by repeat (first | with_reducible exact Below.refl _ _ | with_reducible apply below_alloc | with_reducible refine below_set ?_ (Nat.le_refl _) | with_reducible apply pw_below_drewN | with_reducible apply below_drew1))) (Kd.R_reads' F2.out).2.1 (Kd.C_below (Kd.R_reads' F3.out).2.2 (by repeat (first | with_reducible exact Below.refl _ _ | with_reducible apply below_alloc | with_reducible refine below_set ?_ (Nat.le_refl _) | with_reducible apply pw_below_drewN | with_reducible apply below_drew1))) (Kd.R_reads' F3.out).2.1 He_impl.out).mono ?_
  rintro e w6 ⟨rfl, hb⟩
  clear czBK_aS_0 czBK_aS_1
  have HN := Aside0.mk HB.out.size
  have BK_x1 := Aside0.mk (blk_below (g := w5.heap.size) (o := .cells #[.int .i64 a1_0, .slice A3_ l1_1.length c3_] 31 (0, 0)) (by (repeat (first | with_reducible refine blk_drewN ?_ _ | with_reducible refine blk_drew ?_)); exact (blk_new _ _)) hb)
  have HG_BK_x1 : Aside0 (w5.heap.size < w6.heap.size) := ⟨blk_lt BK_x1.out⟩
  have HW := Aside0.mk (below_step (w := w5) (by repeat (first | with_reducible exact Below.refl _ _ | with_reducible apply below_alloc | with_reducible refine below_set ?_ (Nat.le_refl _) | with_reducible apply pw_below_drewN | with_reducible apply below_drew1)) hb)
  have HZ6 : Aside0 (w5.heap.size ≤ w6.heap.size) := ⟨HW.out.size⟩
  replace HB := Aside0.mk (below_step HB.out HW.out)
  replace F2 := Aside0.mk (Kd.R_below F2.out HW.out)
  replace F3 := Aside0.mk (Kd.R_below F3.out HW.out)
  replace BK_aS := Aside0.mk (blk_below BK_aS.out HW.out)
  clear hb HW HN 
  have czBK_aS_0 : w6.cell? ⟨w.heap.size, 0, none⟩ = some (.int .i64 a1_0) := (blk_cell BK_aS.out 0).trans rfl
  have czBK_aS_1 : w6.cell? ⟨w.heap.size, 1, none⟩ = some (.slice A1_1 l1_1.length c1_1) := (blk_cell BK_aS.out 1).trans rfl
  have czBK_x1_0 : w6.cell? ⟨w5.heap.size, 0, none⟩ = some (.int .i64 a1_0) := (blk_cell BK_x1.out 0).trans rfl
  have czBK_x1_1 : w6.cell? ⟨w5.heap.size, 1, none⟩ = some (.slice A3_ l1_1.length c3_) := (blk_cell BK_x1.out 1).trans rfl
  go_wp2_with fail
  refine (laws_toInstructionS.calls k _ _ _ _ _ (Kd.C_below HR0.out (below_step HB.out (by repeat (first | with_reducible exact Below.refl _ _ | with_reducible apply below_alloc | with_reducible refine below_set ?_ (Nat.le_refl _) | with_reducible apply pw_below_drewN | with_reducible apply below_drew1)))) HC0.out He_to_aL.out).mono ?_
  rintro e w7 ⟨vq209_0, rfl, hf4, hb⟩
  clear czBK_aS_0 czBK_aS_1 czBK_x1_0 czBK_x1_1
  have HN := Aside0.mk HB.out.size
  have HW := Aside0.mk (below_step (w := w6) (by repeat (first | with_reducible exact Below.refl _ _ | with_reducible apply below_alloc | with_reducible refine below_set ?_ (Nat.le_refl _) | with_reducible apply pw_below_drewN | with_reducible apply below_drew1)) hb)
  have HZ7 : Aside0 (w6.heap.size ≤ w7.heap.size) := ⟨HW.out.size⟩
  replace HB := Aside0.mk (below_step HB.out HW.out)
  replace F2 := Aside0.mk (Kd.R_below F2.out HW.out)
  replace F3 := Aside0.mk (Kd.R_below F3.out HW.out)
  replace BK_aS := Aside0.mk (blk_below BK_aS.out HW.out)
  replace BK_x1 := Aside0.mk (blk_below BK_x1.out HW.out)
  obtain ⟨lo4_, F4, HLO4⟩ := Own.R_iv (wN := w6) rfl hf4 HN.out (by repeat (first | with_reducible exact Below.refl _ _ | with_reducible apply below_alloc | with_reducible refine below_set ?_ (Nat.le_refl _) | with_reducible apply pw_below_drewN | with_reducible apply below_drew1)) hb
  obtain ⟨A4_, c4_, e4_⟩ := Kd.R_slice F4.out
  subst e4_
  clear hb HW HN hf4
  have czBK_aS_0 : w7.cell? ⟨w.heap.size, 0, none⟩ = some (.int .i64 a1_0) := (blk_cell BK_aS.out 0).trans rfl
  have czBK_aS_1 : w7.cell? ⟨w.heap.size, 1, none⟩ = some (.slice A1_1 l1_1.length c1_1) := (blk_cell BK_aS.out 1).trans rfl
  have czBK_x1_0 : w7.cell? ⟨w5.heap.size, 0, none⟩ = some (.int .i64 a1_0) := (blk_cell BK_x1.out 0).trans rfl
  have czBK_x1_1 : w7.cell? ⟨w5.heap.size, 1, none⟩ = some (.slice A3_ l1_1.length c3_) := (blk_cell BK_x1.out 1).trans rfl
  go_wp2_with fail
  refine (laws_eqInstructionS.calls k _ _ _ _ _ _ _ _ (Kd.C_below (Kd.R_reads' F2.out).2.2 (by repeat (first | with_reducible exact Below.refl _ _ | with_reducible apply below_alloc | with_reducible refine below_set ?_ (Nat.le_refl _) | with_reducible apply pw_below_drewN | with_reducible apply below_drew1))) (Kd.R_reads' F2.out).2.1 (Kd.C_below (Kd.R_reads' F4.out).2.2 (by repeat (first | with_reducible exact Below.refl _ _ | with_reducible apply below_alloc | with_reducible refine below_set ?_ (Nat.le_refl _) | with_reducible apply pw_below_drewN | with_reducible apply below_drew1))) (Kd.R_reads' F4.out).2.1 He_eq_x0.out).mono ?_
  rintro e w8 ⟨rfl, hb⟩
  clear czBK_aS_0 czBK_aS_1 czBK_x1_0 czBK_x1_1
  have HW := Aside0.mk (below_step (w := w7) (by repeat (first | with_reducible exact Below.refl _ _ | with_reducible apply below_alloc | with_reducible refine below_set ?_ (Nat.le_refl _) | with_reducible apply pw_below_drewN | with_reducible apply below_drew1)) hb)
  have HZ8 : Aside0 (w7.heap.size ≤ w8.heap.size) := ⟨HW.out.size⟩
  replace HB := Aside0.mk (below_step HB.out HW.out)
  replace F2 := Aside0.mk (Kd.R_below F2.out HW.out)
  replace F3 := Aside0.mk (Kd.R_below F3.out HW.out)
  replace F4 := Aside0.mk (Kd.R_below F4.out HW.out)
  replace BK_aS := Aside0.mk (blk_below BK_aS.out HW.out)
  replace BK_x1 := Aside0.mk (blk_below BK_x1.out HW.out)
  clear hb HW
  have czBK_aS_0 : w8.cell? ⟨w.heap.size, 0, none⟩ = some (.int .i64 a1_0) := (blk_cell BK_aS.out 0).trans rfl
  have czBK_aS_1 : w8.cell? ⟨w.heap.size, 1, none⟩ = some (.slice A1_1 l1_1.length c1_1) := (blk_cell BK_aS.out 1).trans rfl
  have czBK_x1_0 : w8.cell? ⟨w5.heap.size, 0, none⟩ = some (.int .i64 a1_0) := (blk_cell BK_x1.out 0).trans rfl
  have czBK_x1_1 : w8.cell? ⟨w5.heap.size, 1, none⟩ = some (.slice A3_ l1_1.length c3_) := (blk_cell BK_x1.out 1).trans rfl
  go_wp2_with fail
  refine start_ (n := 5) (S := fun w' => w'.cell? ⟨w5.heap.size, 0, none⟩ = some (.int .i64 a1_0) ∧ w'.cell? ⟨w5.heap.size, 1, none⟩ = some (.slice A3_ l1_1.length c3_) ∧ w'.cell? ⟨w.heap.size, 0, none⟩ = some (.int .i64 a1_0) ∧ w'.cell? ⟨w.heap.size, 1, none⟩ = some (.slice A1_1 l1_1.length c1_1)) (ds := []) #[false, false, false, false, false] (by kernel_rfl) rfl rfl ⟨(blk_cell BK_x1.out 0).trans rfl, (blk_cell BK_x1.out 1).trans rfl, (blk_cell BK_aS.out 0).trans rfl, (blk_cell BK_aS.out 1).trans rfl⟩ (fun hHeld => ?_)
  refine Own.anew_ (wN := w8) (by repeat (first | with_reducible exact Below.refl _ _ | with_reducible apply below_alloc | with_reducible refine below_set ?_ (Nat.le_refl _) | with_reducible apply pw_below_drewN | with_reducible apply below_drew1)) hHeld (fun w9 hb hHeld => ?_)
  clear czBK_aS_0 czBK_aS_1 czBK_x1_0 czBK_x1_1
  have HW := Aside0.mk hb
  have HZ9 : Aside0 (w8.heap.size ≤ w9.heap.size) := ⟨HW.out.size⟩
  replace HB := Aside0.mk (below_step HB.out HW.out)
  replace F2 := Aside0.mk (Kd.R_below F2.out HW.out)
  replace F3 := Aside0.mk (Kd.R_below F3.out HW.out)
  replace BK_aS := Aside0.mk (blk_below BK_aS.out HW.out)
  replace BK_x1 := Aside0.mk (blk_below BK_x1.out HW.out)
  clear hb HW
  refine take_ (i := 0) (N := some 61) (v := ?_) (a' := ?_) #[true, false, false, false, false] rfl rfl (by kernel_rfl) (fun _ _ _ h => h) (Or.inl ⟨by rfl, ?_⟩) hHeld ?_ ?_
  rotate_left
  · rintro w' ⟨s0_, s1_, s2_, s3_⟩
    go_simp
    with_reducible rfl
  rotate_left
  · simp only [Act.put, List.setIfInBounds_toArray, List.set_cons_zero, List.set_cons_succ, i64_w, i32_w]
    rfl
  refine take_ (i := 1) (N := some 62) (v := ?_) (a' := ?_) #[true, true, false, false, false] rfl rfl (by kernel_rfl) (fun _ _ _ h => h) (Or.inl ⟨by rfl, ?_⟩) hHeld ?_ ?_
  rotate_left
  · rintro w' ⟨s0_, s1_, s2_, s3_⟩
    go_simp
    with_reducible rfl
  rotate_left
  · simp only [Act.put, List.setIfInBounds_toArray, List.set_cons_zero, List.set_cons_succ, i64_w, i32_w]
    rfl
  refine one_ (i := 2) (N := some 63) #[true, true, true, false, false] rfl rfl (by kernel_rfl) (by decide) (fun K hK => ?_)
  refine goes_ Try.func15 (by kernel_rfl) rfl #[.agg #[.int .i64 a1_0, .slice A1_1 l1_1.length c1_1]] (by rfl) rfl rfl (by (try simp only [List.map_toArray, List.map_cons, List.map_nil]); first | done | rfl | (simp only [List.length_drop, List.length_take]; rfl)) ?_
  with_reducible refine (laws_toCounterState.calls k _ _ _ _ _ _ _ (Kd.C_below HR1_1.out (below_step HB.out (by repeat (first | with_reducible exact Below.refl _ _ | with_reducible apply below_alloc | with_reducible refine below_set ?_ (Nat.le_refl _) | with_reducible apply pw_below_drewN | with_reducible apply below_drew1)))) HC1_1.out He_to_aS.out).mono ?_
  rintro e w10 ⟨vq9_0, rfl, hf5, hb⟩
  refine ⟨_, rfl, ?_⟩
  have HN := Aside0.mk HB.out.size
  have HW := Aside0.mk (below_step (w := w9) (by repeat (first | with_reducible exact Below.refl _ _ | with_reducible apply below_alloc | with_reducible refine below_set ?_ (Nat.le_refl _) | with_reducible apply pw_below_drewN | with_reducible apply below_drew1)) hb)
  have HZ10 : Aside0 (w9.heap.size ≤ w10.heap.size) := ⟨HW.out.size⟩
  replace HB := Aside0.mk (below_step HB.out HW.out)
  replace F2 := Aside0.mk (Kd.R_below F2.out HW.out)
  replace F3 := Aside0.mk (Kd.R_below F3.out HW.out)
  replace BK_aS := Aside0.mk (blk_below BK_aS.out HW.out)
  replace BK_x1 := Aside0.mk (blk_below BK_x1.out HW.out)
  obtain ⟨lo5_, F5, HLO5⟩ := Own.R_iv (wN := w9) rfl hf5 HN.out (by repeat (first | with_reducible exact Below.refl _ _ | with_reducible apply below_alloc | with_reducible refine below_set ?_ (Nat.le_refl _) | with_reducible apply pw_below_drewN | with_reducible apply below_drew1)) hb
  obtain ⟨A5_, c5_, e5_⟩ := Kd.R_slice F5.out
  subst e5_
  clear hb HW HN hf5
  refine hK.out _ _ ⟨(blk_cell BK_x1.out 0).trans rfl, (blk_cell BK_x1.out 1).trans rfl, (blk_cell BK_aS.out 0).trans rfl, (blk_cell BK_aS.out 1).trans rfl⟩ (fun hHeld => ?_)
  clear hK K
  refine norm_ (a' := ?_) ?_ ?_
  rotate_left
  · show Act.put _ (some 63) _ = _
    simp only [Act.put, List.setIfInBounds_toArray, List.set_cons_zero, List.set_cons_succ, i64_w, i32_w]
    rfl
  refine one_ (i := 3) (N := some 64) #[true, true, true, true, false] rfl rfl (by kernel_rfl) (by decide) (fun K hK => ?_)
  refine goes_ Try.func18 (by kernel_rfl) rfl #[.agg #[.int .i64 a1_0, .slice A3_ l1_1.length c3_], .agg #[.int .i64 a1_0, .slice A5_ l1_1.length c5_]] (by rfl) rfl rfl (by (try simp only [List.map_toArray, List.map_cons, List.map_nil]); first | done | rfl | (simp only [List.length_drop, List.length_take]; rfl)) ?_
  with_reducible refine (laws_eqCounterState.calls k _ _ _ _ _ _ _ _ _ _ (Kd.C_below (Kd.R_reads' F3.out).2.2 (by repeat (first | with_reducible exact Below.refl _ _ | with_reducible apply below_alloc | with_reducible refine below_set ?_ (Nat.le_refl _) | with_reducible apply pw_below_drewN | with_reducible apply below_drew1))) (Kd.R_reads' F3.out).2.1 (Kd.C_below (Kd.R_reads' F5.out).2.2 (by repeat (first | with_reducible exact Below.refl _ _ | with_reducible apply below_alloc | with_reducible refine below_set ?_ (Nat.le_refl _) | with_reducible apply pw_below_drewN | with_reducible apply below_drew1))) (Kd.R_reads' F5.out).2.1 He_eq_x1.out).mono ?_
  rintro e w11 ⟨rfl, hb⟩
  refine ⟨_, rfl, ?_⟩
  have HW := Aside0.mk (below_step (w := w10) (by repeat (first | with_reducible exact Below.refl _ _ | with_reducible apply below_alloc | with_reducible refine below_set ?_ (Nat.le_refl _) | with_reducible apply pw_below_drewN | with_reducible apply below_drew1)) hb)
  have HZ11 : Aside0 (w10.heap.size ≤ w11.heap.size) := ⟨HW.out.size⟩
  replace HB := Aside0.mk (below_step HB.out HW.out)
  replace F2 := Aside0.mk (Kd.R_below F2.out HW.out)
  replace F3 := Aside0.mk (Kd.R_below F3.out HW.out)
  replace BK_aS := Aside0.mk (blk_below BK_aS.out HW.out)
  replace BK_x1 := Aside0.mk (blk_below BK_x1.out HW.out)
  clear hb HW
  refine hK.out _ _ ⟨(blk_cell BK_x1.out 0).trans rfl, (blk_cell BK_x1.out 1).trans rfl, (blk_cell BK_aS.out 0).trans rfl, (blk_cell BK_aS.out 1).trans rfl⟩ (fun hHeld => ?_)
  clear hK K
  refine norm_ (a' := ?_) ?_ ?_
  rotate_left
  · show Act.put _ (some 64) _ = _
    simp only [Act.put, List.setIfInBounds_toArray, List.set_cons_zero, List.set_cons_succ, i64_w, i32_w]
    rfl
  refine pure_ (i := 4) (N := some 65) (v := ?_) (a' := ?_) #[true, true, true, true, true] rfl rfl (by kernel_rfl) (fun _ _ _ h => h) (Or.inl ⟨by rfl, ?_⟩) ?_ ?_
  rotate_left
  · intro w'
    go_simp
    with_reducible rfl
  rotate_left
  · simp only [Act.put, List.setIfInBounds_toArray, List.set_cons_zero, List.set_cons_succ, i64_w, i32_w]
    rfl
  refine done_ (by kernel_rfl) ?_
  clear hHeld
  have czBK_aS_0 : w11.cell? ⟨w.heap.size, 0, none⟩ = some (.int .i64 a1_0) := (blk_cell BK_aS.out 0).trans rfl
  have czBK_aS_1 : w11.cell? ⟨w.heap.size, 1, none⟩ = some (.slice A1_1 l1_1.length c1_1) := (blk_cell BK_aS.out 1).trans rfl
  have czBK_x1_0 : w11.cell? ⟨w5.heap.size, 0, none⟩ = some (.int .i64 a1_0) := (blk_cell BK_x1.out 0).trans rfl
  have czBK_x1_1 : w11.cell? ⟨w5.heap.size, 1, none⟩ = some (.slice A3_ l1_1.length c3_) := (blk_cell BK_x1.out 1).trans rfl
  go_wp2_with fail
  go_ret
  exact ⟨rfl, below_step HB.out (by repeat (first | with_reducible exact Below.refl _ _ | with_reducible apply below_alloc | with_reducible refine below_set ?_ (Nat.le_refl _) | with_reducible apply pw_below_drewN | with_reducible apply below_drew1))⟩
end Go.Proofs.Ytbcphkblieeemaa.P
end

section
/- FnExactIsEndless: the program's IsEndless returns what the reference's returns, for all programs, states and numbers of steps whose sizes are not greater than 2^20 (as the law's own guard says). -/
namespace Go.Proofs.Ytbcphkblieeemaa.A
open Go.RowKit Go.Proofs.YtbcphkblieeemaaW.PrintWords Go.Proofs.YtbcphkblieeemaaW.PrintLast Go.Proofs.YtbcphkblieeemaaW.PrintMore Go.Proofs.Ytbcphkblieeemaa.P Go.Proofs.Ytbcphkblieeemaa.T
set_option linter.unusedVariables false
set_option linter.unusedSimpArgs false
theorem lawFnExactIsEndless (A0 : Option Addr) (c0 : Nat) (l : List S57) (line : Int) (A1 : Option Addr) (c1 : Nat) (vs : List Int) (n : Int) (n3 : Int) (w : World) (h1 : Kd.C k57 w A0 l.length l) (hc1 : l.length ≤ c0) (h2 : Kd.C (Kd.int .i64) w A1 vs.length vs) (hc2 : vs.length ≤ c1) (hl : l.length ≤ maxLen) (hv : vs.length ≤ maxLen) :
    Calls Try.prog 10 #[.slice A0 l.length c0, .agg #[.int .i64 line, .slice A1 vs.length c1], .int .i64 n, .int .i64 n3] w fun e w' => e = .returned (.bool true) ∧ Below w.heap.size w w' := by
  have e0 := szIns l 1048576 (by omega) hl
  by_cases g1 : (1048576 : Int) - (l.length : Int) < 0
  · rw [if_pos g1] at e0
    exact FnExactIsEndless_small0 0 A0 c0 l line A1 c1 vs n n3 _ w h1 hc1 h2 hc2 e0 (by omega)
  rw [if_neg g1] at e0
  have e0' := szCt line vs ((1048576 : Int) - (l.length : Int)) (by omega) hv
  by_cases g2 : (1048576 : Int) - (l.length : Int) - (vs.length : Int) < 0
  · rw [if_pos g2] at e0'
    exact FnExactIsEndless_small1 0 A0 c0 l line A1 c1 vs n n3 _ _ w h1 hc1 h2 hc2 e0 (by omega) e0' (by omega)
  rw [if_neg g2] at e0'
  have g3 : (l.map cpI).length ≤ 1048576 := by simp; omega
  have g4 : vs.length ≤ 1048576 := by omega
  obtain ⟨K1, e1⟩ := toIns l (by omega)
  obtain ⟨K2, e2⟩ := toCt line vs g4
  obtain ⟨K6, e6⟩ := eqIns (l.map cpI) (by simp only [maxLen]; omega)
  obtain ⟨K7, e7⟩ := eqCt line vs hv
  have e3 : ∀ k, spec_IsEndless.f k (l.map cpI) line vs n n3 = some (resEnd (l.map cpI) line vs n n3) := fun k => if_pos ⟨g3, g4⟩
  have e4 : ∀ k, impl_IsEndless.f k (l.map cpI) line vs n n3 = some (resEnd (l.map cpI) line vs n n3) := fun k => (if_pos ⟨g3, g4⟩).trans (by rw [resEnd_eq])
  obtain ⟨⟨t0, t1⟩, ht⟩ : ∃ t, t = resEnd (l.map cpI) line vs n n3 := ⟨_, rfl⟩
  rw [← ht] at e3 e4
  exact FnExactIsEndless_walk (K1 + K2 + K6 + K7) A0 c0 l line A1 c1 vs n n3 _ _ t0 t1 (l.map cpI) w h1 hc1 h2 hc2 e0 (by omega) e0' (by omega) (e1 _ (by omega)) (e2 _ (by omega)) (e3 _) (e4 _) (e6 _ (by omega)) (e7 _ (by omega))
end Go.Proofs.Ytbcphkblieeemaa.A
end

section
/- Opens an argument that a row reads as data into the cells and lists that a contract speaks of: whole numbers, slices, structs of two and three fields. -/
namespace Go.Proofs.Ytbcphkblieeemaa.Op
open Go.ChangeShapes Go.WideShapes Go.Deep Go.RowKit Go.Proofs.YtbcphkblieeemaaW.PrintWords
set_option linter.unusedVariables false

/-- What reads as data of type t is of kind d, and meets wf. -/
def Opens (P : Program) (t : TypeId) {α : Type} (d : Kd α) (wf : α → Prop) : Prop :=
  ∀ {H : Type} {enc : TypeId × Value → H} {w : World} {base : Nat} {spare : Nat → Bool} {held : Bool} {fuel : Nat} {cs : List Value} {x : DataW H × List MemPlace},
    DataW.trod enc P w base spare held fuel t cs = some x → ∃ a, d.K w a cs ∧ wf a

def WNum (k : IntKind) (n : Int) : Prop := (Lit.int k n).wf = true
abbrev WInt : Int → Prop := WNum .i64
def WList {α : Type} (wf : α → Prop) (l : List α) : Prop := l.length ≤ maxLen ∧ ∀ a ∈ l, wf a

theorem opens_int {P : Program} {t : TypeId} {k : IntKind} (h : P.underlying t = some (.int k)) : Opens P t (Kd.int k) (WNum k) := by
  intro H enc w base spare held fuel cs x ht
  obtain ⟨n, rfl, _, hw⟩ := DataW.trod_int h ht
  exact ⟨n, rfl, hw⟩

theorem opens_slice {P : Program} {t e : TypeId} {α : Type} {d : Kd α} {wf : α → Prop} (q : Nat) (h : P.underlying t = some (.slice e)) (hc : P.cellsOf e = d.sz) (o : Opens P e d wf) :
    Opens P t (Kd.slice q d) (WList wf) := by
  intro H enc w base spare held fuel cs x ht
  rcases open_slice h ht with ⟨rfl, _⟩ | ⟨a, len, cap, m, n, D, Pl, rfl, hb, hl, hm, hmm, hx, hi⟩
  · exact ⟨[], ⟨none, 0, rfl, Nat.le_refl _, rfl, by simp, fun hn => by simp at hn⟩, by simp [WList]⟩
  · have hlm : len ≤ m := by rw [hmm]; split <;> omega
    have each : ∀ i, i < len → ∃ y cs', w.cells? base (a.add (i * d.sz)) d.sz = some cs' ∧ d.K w y cs' ∧ wf y := by
      intro i hil
      obtain ⟨cs', h1, h2⟩ := hi i (by omega)
      obtain ⟨y, hk, hw⟩ := o h2
      rw [hc] at h1
      exact ⟨y, cs', h1, hk, hw⟩
    have build : ∀ k, k ≤ len → ∃ ys : List α, ys.length = k ∧ (∀ y ∈ ys, wf y) ∧ ∀ j y, ys[j]? = some y → ∃ c, c.length = d.sz ∧ d.K w y c ∧ ∀ i u, c[i]? = some u → w.cell? (a.add (j * d.sz + i)) = some u := by
      intro k
      induction k with
      | zero => exact fun _ => ⟨[], rfl, by simp, by simp⟩
      | succ k ih =>
        intro hk
        obtain ⟨ys, hlen, hwf, hys⟩ := ih (by omega)
        obtain ⟨y, cs', h1, h2, h3⟩ := each k (by omega)
        obtain ⟨_, hcl, hat⟩ := World.cells?_some h1
        refine ⟨ys ++ [y], by simp [hlen], ?_, ?_⟩
        · intro z hz
          rcases List.mem_append.1 hz with hz | hz
          · exact hwf z hz
          · rw [List.mem_singleton.1 hz]; exact h3
        · intro j z hj
          by_cases hjk : j < k
          · rw [List.getElem?_append_left (by omega)] at hj
            exact hys j z hj
          · have hjl : j < (ys ++ [y]).length := (List.getElem?_eq_some_iff.1 hj).1
            simp only [List.length_append, List.length_singleton, hlen] at hjl
            obtain rfl : j = k := by omega
            rw [List.getElem?_append_right (by omega), hlen, Nat.sub_self] at hj
            obtain rfl : y = z := by simpa using hj
            refine ⟨cs', hcl, h2, fun i u hu => ?_⟩
            have hil : i < d.sz := by
              have := (List.getElem?_eq_some_iff.1 hu).1
              omega
            have := hat i hil
            rw [Go.Deep.add_add] at this
            rw [this, hu]
    obtain ⟨ys, hlen, hwf, hys⟩ := build len (Nat.le_refl _)
    have hmx : len ≤ maxLen := by omega
    exact ⟨ys, ⟨some a, cap, by rw [hlen], by rw [hlen]; exact hl, rfl, by rw [hlen]; exact hmx, fun _ => ⟨a, rfl, hys⟩⟩, by rw [hlen]; exact hmx, hwf⟩

theorem opens_iso {P : Program} {t : TypeId} {α β : Type} {d : Kd α} {wf : α → Prop} (f : β → α) (g : α → β) (hg : ∀ a, f (g a) = a) (o : Opens P t d wf) : Opens P t (Kd.iso d f) (fun b => wf (f b)) := by
  intro H enc w base spare held fuel cs x ht
  obtain ⟨a, h1, h2⟩ := o ht
  exact ⟨g a, by show d.K w (f (g a)) cs; rw [hg]; exact h1, by show wf (f (g a)); rw [hg]; exact h2⟩

theorem opens_two {P : Program} {t : TypeId} {f0 f1 : Field} {α β : Type} {a : Kd α} {b : Kd β} {wa : α → Prop} {wb : β → Prop}
    (h : P.underlying t = some (.struct #[f0, f1])) (hc : P.cellsOf t = a.sz + b.sz) (o0 : f0.offset = 0) (o1 : f1.offset = a.sz) (c0 : P.cellsOf f0.type = a.sz) (c1 : P.cellsOf f1.type = b.sz)
    (oa : Opens P f0.type a wa) (ob : Opens P f1.type b wb) : Opens P t (Kd.pair a b) (fun x => wa x.1 ∧ wb x.2) := by
  intro H enc w base spare held fuel cs x ht
  obtain ⟨xs, n, _, _, hlen, hxl, hf⟩ := DataW.trod_struct h ht
  have hx2 : xs.length = 2 := hxl
  have h0 := hf 0 f0 rfl
  have h1 := hf 1 f1 rfl
  rw [List.getElem?_eq_getElem (by omega)] at h0 h1
  obtain ⟨y0, k0, w0⟩ := oa h0
  obtain ⟨y1, k1, w1⟩ := ob h1
  refine ⟨(y0, y1), ⟨_, _, ?_, k0, k1⟩, w0, w1⟩
  rw [hc] at hlen
  rw [o0, o1, c0, c1, List.drop_zero]
  rw [List.take_of_length_le (l := cs.drop a.sz) (by simp; omega), List.take_append_drop]

theorem opens_three {P : Program} {t : TypeId} {f0 f1 f2 : Field} {α β γ : Type} {a : Kd α} {b : Kd β} {c : Kd γ} {wa : α → Prop} {wb : β → Prop} {wc : γ → Prop}
    (h : P.underlying t = some (.struct #[f0, f1, f2])) (hc : P.cellsOf t = a.sz + (b.sz + c.sz)) (o0 : f0.offset = 0) (o1 : f1.offset = a.sz) (o2 : f2.offset = a.sz + b.sz) (c0 : P.cellsOf f0.type = a.sz) (c1 : P.cellsOf f1.type = b.sz) (c2 : P.cellsOf f2.type = c.sz)
    (oa : Opens P f0.type a wa) (ob : Opens P f1.type b wb) (oc : Opens P f2.type c wc) : Opens P t (Kd.pair a (Kd.pair b c)) (fun x => wa x.1 ∧ wb x.2.1 ∧ wc x.2.2) := by
  intro H enc w base spare held fuel cs x ht
  obtain ⟨xs, n, _, _, hlen, hxl, hf⟩ := DataW.trod_struct h ht
  have hx2 : xs.length = 3 := hxl
  have h0 := hf 0 f0 rfl
  have h1 := hf 1 f1 rfl
  have h2 := hf 2 f2 rfl
  rw [List.getElem?_eq_getElem (by omega)] at h0 h1 h2
  obtain ⟨y0, k0, w0⟩ := oa h0
  obtain ⟨y1, k1, w1⟩ := ob h1
  obtain ⟨y2, k2, w2⟩ := oc h2
  rw [hc] at hlen
  refine ⟨(y0, y1, y2), ⟨_, cs.drop a.sz, ?_, k0, ⟨_, _, ?_, k1, k2⟩⟩, w0, w1, w2⟩
  · rw [o0, c0, List.drop_zero, List.take_append_drop]
  · rw [o1, o2, c1, c2]
    rw [List.take_of_length_le (l := cs.drop (a.sz + b.sz)) (by simp; omega), ← List.drop_drop, List.take_append_drop]

/-- A slice among the arguments. -/
theorem open_arg_slice {P : Program} {t : TypeId} {α : Type} {d : Kd α} {wf : α → Prop} {q : Nat} (o : Opens P t (Kd.slice q d) (WList wf)) {H : Type} {enc : TypeId × Value → H} {w : World} {base : Nat} {spare : Nat → Bool} {held : Bool}
    {A : Option Addr} {len cap : Nat} {D : DataW H} {ps : List MemPlace} (h : DataW.Trod enc P w base spare held t (.slice A len cap) D ps) :
    ∃ l : List α, len = l.length ∧ l.length ≤ cap ∧ d.C w A l.length l ∧ WList wf l := by
  obtain ⟨fuel, hf⟩ := h
  obtain ⟨l, ⟨A', c, he, hl, hC⟩, hw⟩ := o hf
  simp only [Value.cells, List.cons.injEq, Value.slice.injEq, and_true] at he
  obtain ⟨rfl, rfl, rfl⟩ := he
  exact ⟨l, rfl, hl, hC, hw⟩
end Go.Proofs.Ytbcphkblieeemaa.Op
end

section
/- FnExactIsEndless: the program and the reference agree for all arguments: the row over the pure statement. -/
namespace Go.Proofs.Ytbcphkblieeemaa.fnExactIsEndless
open Go.ChangeShapes Go.WideShapes Go.ChangeAt Go.RowKit
open Go.ChangeMaps (open_string shut_string)
open Go.Proofs.Ytbcphkblieeemaa.Op
set_option linter.unusedVariables false
theorem own : ownKnob Try.prog.godebug = none := by kernel_rfl
theorem laidOut : laidOutB Try.prog = true := by kernel_rfl
theorem ty3 : Opens Try.prog 3 (Go.Proofs.YtbcphkblieeemaaW.PrintWords.Kd.int .i64) (WNum .i64) := opens_int Try.underlying3
theorem ty57 : Opens Try.prog 57 P.k57 (fun x : P.S57 => (WNum .i64) x.f0 ∧ (WNum .i64) x.f1 ∧ (WNum .i64) x.f2) := opens_iso (fun x : P.S57 => (x.f0, x.f1, x.f2)) (fun a => ⟨a.1, a.2.1, a.2.2⟩) (fun _ => rfl) (opens_three Try.underlying57 (by kernel_rfl) (by kernel_rfl) (by kernel_rfl) (by kernel_rfl) (by kernel_rfl) (by kernel_rfl) (by kernel_rfl) ty3 ty3 ty3)
theorem ty22 : Opens Try.prog 22 (Go.Proofs.YtbcphkblieeemaaW.PrintWords.Kd.slice 57 P.k57) (WList (fun x : P.S57 => (WNum .i64) x.f0 ∧ (WNum .i64) x.f1 ∧ (WNum .i64) x.f2)) := opens_slice 57 Try.underlying22 (by kernel_rfl) ty57
theorem ty23 : Opens Try.prog 23 (Go.Proofs.YtbcphkblieeemaaW.PrintWords.Kd.slice 3 (Go.Proofs.YtbcphkblieeemaaW.PrintWords.Kd.int .i64)) (WList (WNum .i64)) := opens_slice 3 Try.underlying23 (by kernel_rfl) ty3
theorem tw25 : Opens Try.prog 25 (Go.Proofs.YtbcphkblieeemaaW.PrintWords.Kd.pair (Go.Proofs.YtbcphkblieeemaaW.PrintWords.Kd.int .i64) (Go.Proofs.YtbcphkblieeemaaW.PrintWords.Kd.slice 3 (Go.Proofs.YtbcphkblieeemaaW.PrintWords.Kd.int .i64))) (fun x : Int × (List Int) => (WNum .i64) x.1 ∧ (WList (WNum .i64)) x.2) := opens_two Try.underlying25 (by kernel_rfl) (by kernel_rfl) (by kernel_rfl) (by kernel_rfl) (by kernel_rfl) ty3 ty23
set_option maxRecDepth 100000 in
theorem lifted (os : Os) (started : os.Started) (H : Type) (enc : TypeId × Value → H) :
    ReturnsInHanded {} Try.checked os 10 .any (Rows.fnExactIsEndlessSpec.pre6 enc Try.prog Try.f10 Rows.fnExactIsEndlessRow.domain false) (Rows.fnExactIsEndlessSpec.post enc Try.prog Try.f10 false true false false) := by
  refine returnsInHanded_of_change_sized (C := Try.checked) own started (by kernel_rfl) Try.func10
    (ChangeSpec.witness6 (enc := enc) (C := Try.checked) false ⟨#[], #[.slice none 0 0, .agg #[.int .i64 0, .slice none 0 0], .int .i64 0, .int .i64 0], []⟩ 8 (by kernel_rfl) (by kernel_rfl) (by kernel_rfl) (by kernel_rfl)) ?_
  intro W base args ds gs before hval0 hW hcnd hsz0 _
  have hsz : (DataW.weightsEach Try.prog (Try.f10.params.toList ++ Rows.fnExactIsEndlessSpec.plain.varTypes Try.prog) (ds ++ gs)).all (· ≤ reachBytes) = true := hsz0
  have hval : ∀ (j : Nat) t v, Try.f10.params[j]? = some t → args[j]? = some v → Value.okWide Try.prog W .any base t v := hval0
  have hW' := hW
  obtain ⟨p, q, hA0, hV, rfl, hfz, hnd⟩ := hW
  have hA : DataW.TrodAll enc Try.prog W 0 (fun _ => true) true Try.f10.params.toList args.toList ds p := hA0
  rw [Try.params10] at hA hval hsz
  obtain ⟨v0, vs0, d0, ds0, p0, q0, hargs, rfl, rfl, h0, r0⟩ := trodAll_cons hA
  obtain ⟨v1, vs1, d1, ds1, p1, q1, rfl, rfl, rfl, h1, r1⟩ := trodAll_cons r0
  obtain ⟨v2, vs2, d2, ds2, p2, q2, rfl, rfl, rfl, h2, r2⟩ := trodAll_cons r1
  obtain ⟨v3, vs3, d3, ds3, p3, q3, rfl, rfl, rfl, h3, r3⟩ := trodAll_cons r2
  obtain ⟨rfl, rfl, rfl⟩ := trodAll_nil r3
  obtain rfl : args = #[v0, v1, v2, v3] := by cases args; simp_all
  obtain ⟨rfl, rfl⟩ := trodVars_none hV
  have k0 := h0
  have lt0 : ∀ x ∈ p0, x.block < W.heap.size := by obtain ⟨m, hm⟩ := k0; exact DataW.trod_lt m _ _ _ hm
  obtain ⟨A0, len0, cap0, rfl⟩ := okWide_slice Try.underlying22 (hval 0 22 v0 rfl rfl)
  obtain ⟨l0, rfl, hc0, hC0, w0⟩ := open_arg_slice ty22 h0
  have k1 := h1
  have lt1 : ∀ x ∈ p1, x.block < W.heap.size := by obtain ⟨m, hm⟩ := k1; exact DataW.trod_lt m _ _ _ hm
  obtain ⟨cs1, rfl, _⟩ := okWide_struct Try.underlying25 (hval 1 25 v1 rfl rfl)
  obtain ⟨csl1⟩ := cs1
  obtain ⟨fu1, hf1⟩ := h1
  obtain ⟨⟨a1_0, l1_1⟩, ⟨x1_0, x1_1, ex1, e1_0, ⟨A1_1, c1_1, e1_1, hc1_1, hC1_1⟩⟩, ⟨w1_0, w1_1⟩⟩ := tw25 hf1
  replace e1_0 : x1_0 = [Value.int .i64 a1_0] := e1_0
  replace e1_1 : x1_1 = [Value.slice A1_1 l1_1.length c1_1] := e1_1
  replace hc1_1 : l1_1.length ≤ c1_1 := hc1_1
  replace hC1_1 : Go.Proofs.YtbcphkblieeemaaW.PrintWords.Kd.C (Go.Proofs.YtbcphkblieeemaaW.PrintWords.Kd.int .i64) W A1_1 l1_1.length l1_1 := hC1_1
  replace w1_0 : (WNum .i64) a1_0 := w1_0
  replace w1_1 : (WList (WNum .i64)) l1_1 := w1_1
  subst e1_0 e1_1
  have ex1' : csl1 = [.int .i64 a1_0, .slice A1_1 l1_1.length c1_1] := ex1
  subst ex1'
  obtain ⟨a2, rfl, rfl, rfl, w2⟩ := open_int Try.underlying3 (hval 2 3 v2 rfl rfl) h2
  obtain ⟨a3, rfl, rfl, rfl, w3⟩ := open_int Try.underlying3 (hval 3 3 v3 rfl rfl) h3
  clear hA0 hval0 hsz0 hsz
  refine (A.lawFnExactIsEndless A0 _ l0 a1_0 A1_1 c1_1 l1_1 a2 a3 W hC0 hc0 hC1_1 hc1_1 w0.1 w1_1.1).mono fun e W' ⟨he, bel⟩ => ?_
  subst he
  exact ⟨_, rfl, _, _, _, [], _, [], hW', trodAll_mk1 (shut_bool Try.underlying4 _), (trodAll_cons_mk (Below.trod laidOut (by kernel_rfl) (of_decide_eq_true (by kernel_rfl)) k0 bel lt0) (trodAll_cons_mk (Below.trod laidOut (by kernel_rfl) (of_decide_eq_true (by kernel_rfl)) k1 bel lt1) (trodAll_cons_mk (shut_int Try.underlying3 w2) (trodAll_cons_mk (shut_int Try.underlying3 w3) trodAll_mk0)))), rfl, bel.frame _, fun h => by cases h⟩
theorem over : Rows.fnExactIsEndlessRow.holds Try.pinned (OpenSpec.ofChange Rows.fnExactIsEndlessSpec) :=
  OpenClaim.holds_of_wide 10 Try.f10 rfl rfl rfl rfl rfl rfl rfl ⟨rfl, rfl, rfl, rfl, rfl⟩ rfl rfl rfl rfl rfl (by kernel_rfl) Try.func10 (by kernel_rfl)
    (of_decide_eq_true (by kernel_rfl)) (by unfold Func.isWrapper; first | (rw [if_pos (by decide +kernel)]; kernel_rfl) | (rw [if_neg (by decide +kernel)]; exact ⟨rfl, rfl⟩))
    (fun os started H enc _ => lifted os started H enc)
end Go.Proofs.Ytbcphkblieeemaa.fnExactIsEndless
namespace Go.Proofs.Ytbcphkblieeemaa
/-- The row. -/
theorem fnExactIsEndless_holds : Rows.FnExactIsEndlessSaid := fnExactIsEndless.over
end Go.Proofs.Ytbcphkblieeemaa
end
