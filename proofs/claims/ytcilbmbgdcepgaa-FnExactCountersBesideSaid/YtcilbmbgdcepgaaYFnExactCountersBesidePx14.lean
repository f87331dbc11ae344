-- PRINTED by print.py (a twelfth state) out of the translation. Not trusted: Lean checks it.
import Derived.Test.YtcilbmbgdcepgaaZFnExactCountersBeside0
namespace Go.Proofs.Ytcilbmbgdcepgaa.P
open Go.RowKit Go.Proofs.YtcilbmbgdcepgaaW.PrintWords Go.Proofs.YtcilbmbgdcepgaaW.PrintLast Go.Proofs.YtcilbmbgdcepgaaW.PrintMore
attribute [local go_sem] max2_int min2_int max_two min_two max_three min_three max_four min_four   -- for this text's walks alone
set_option linter.unusedVariables false
set_option linter.unusedSimpArgs false

/-! ### impl_counterBoard: function 58 -/
def impl_counterBoard.l0 : Nat → Int → Int → Int → Int → Int → List (S71) → Option (Int × Int × (List (S71)))
  | 0, _, _, _, _, _, _ => none
  | k + 1, x0, x1, x6, x154000, x154001, x154002 => if x6 < x0 then (if 0 ≤ x6 then (if 0 ≤ (wrap64 ((wrap64 (6 * x6)) + 1)) then (if (wrap64 ((wrap64 (6 * x6)) + 1)) < (x154002.length : Int) then (if 0 ≤ (wrap64 ((wrap64 (6 * x6)) + 5)) then (if (wrap64 ((wrap64 (6 * x6)) + 5)) < (x154002.length : Int) then (impl_counterBoard.l0 k x0 x1 (wrap64 (x6 + 1)) x154000 x154001 ((x154002.set ((wrap64 ((wrap64 (6 * x6)) + 1)) : Int).toNat (⟨3, Go.bits .and .i64 (shr .i64 x1 x6) 1⟩ : S71)).set ((wrap64 ((wrap64 (6 * x6)) + 5)) : Int).toNat (⟨1, 0⟩ : S71))) else (none)) else (none)) else (none)) else (none)) else (none)) else (some (x154000, x154001, x154002))
def impl_counterBoard.f (k : Nat) (a0 : Int) (a1 : Int) : Option (Int × Int × (List (S71))) := if 0 ≤ (wrap64 (6 * a0)) then (if (wrap64 (6 * a0) : Int).toNat ≤ 17592186044416 then (impl_counterBoard.l0 k a0 a1 0 (wrap64 (2 * a0)) 3 (List.replicate (wrap64 (6 * a0) : Int).toNat z71)) else (none)) else (none)
theorem impl_counterBoard.mono_l : ∀ k, (∀ y0 y1 y2 y3 y4 y5, LeO (impl_counterBoard.l0 k y0 y1 y2 y3 y4 y5) (impl_counterBoard.l0 (k + 1) y0 y1 y2 y3 y4 y5))
  | 0 => fun _ _ _ _ _ _ r h => by simp [impl_counterBoard.l0] at h
  | k + 1 => by
    have ih0 := impl_counterBoard.mono_l k
    · intro y0 y1 y2 y3 y4 y5
      unfold impl_counterBoard.l0
      repeat' first
      | (with_reducible exact ih0 _ _ _ _ _ _)
      | (with_reducible exact LeO.refl _)
      | (with_reducible exact LeO.none _)
      | (with_reducible refine LeO.ite ?_ ?_)
      | (with_reducible refine LeO.bind ?_ (fun _ => ?_))
      | exact ih0 _ _ _ _ _ _
      | exact LeO.none _
      | refine LeO.ite ?_ ?_
      | refine LeO.bind ?_ (fun _ => ?_)
theorem impl_counterBoard.mono : ∀ a0 a1 k, LeO (impl_counterBoard.f k a0 a1) (impl_counterBoard.f (k + 1) a0 a1) := by
  intro a0 a1 k
  have ih0 := impl_counterBoard.mono_l k
  unfold impl_counterBoard.f
  repeat' first
      | (with_reducible exact ih0 _ _ _ _ _ _)
      | (with_reducible exact LeO.refl _)
      | (with_reducible exact LeO.none _)
      | (with_reducible refine LeO.ite ?_ ?_)
      | (with_reducible refine LeO.bind ?_ (fun _ => ?_))
      | exact ih0 _ _ _ _ _ _
      | exact LeO.none _
      | refine LeO.ite ?_ ?_
      | refine LeO.bind ?_ (fun _ => ?_)
def impl_counterBoard.T5 : Bool × List (List Nat × List Nat) := (true, [([], []), ([0], [0]), ([], []), ([2], [2]), ([3], [3]), ([], []), ([], []), ([5, 6], [5, 6]), ([7], [7]), ([8], [8]), ([1, 4, 0, 1, 2, 3, 4, 5, 6, 7, 8, 9], [1, 4]), ([10, 9, 0, 1, 2, 3, 4, 5, 6, 7, 8, 9], [9, 10])])
def impl_counterBoard.B5 : List Nat := [0, 1, 0, 4, 12, 0, 0, 96, 224, 480, 1023, 2047]
theorem impl_counterBoard.tab5 : rtab .any (opsOf Try.f58 5) = impl_counterBoard.T5 := by kernel_rfl
theorem impl_counterBoard.bits5 : waitsOk impl_counterBoard.T5.2 impl_counterBoard.B5 = true := by kernel_rfl
set_option maxHeartbeats 8000000 in
set_option maxRecDepth 100000 in
theorem impl_counterBoard.calls (k : Nat) (a0 : Int) (a1 : Int) (r1 : Int) (r2 : Int) (r3 : List (S71)) (w : World) (h : impl_counterBoard.f k a0 a1 = some (r1, r2, r3)) :
    Calls Try.prog 58 #[.int .i64 a0, .int .i64 a1] w fun e w' => ∃ v2_ : Value, e = .returned (.agg #[.int .i64 r1, .int .i64 r2, v2_]) ∧ Kd.R k71 71 w' w.heap.size (fun _ => True) v2_ r3 ∧ Below w.heap.size w w' := by
  have hu24 := Try.underlying24
  have hu71 := Try.underlying71
  have HB := Aside0.mk (Below.refl w.heap.size w)
  have H : (if 0 ≤ (wrap64 (6 * a0)) then (if (wrap64 (6 * a0) : Int).toNat ≤ 17592186044416 then (impl_counterBoard.l0 k a0 a1 0 (wrap64 (2 * a0)) 3 (List.replicate (wrap64 (6 * a0) : Int).toNat z71)) else (none)) else (none)) = some (r1, r2, r3) := h
  clear h
  obtain ⟨ji3, hji3⟩ : ∃ j_ : Int, (wrap64 (6 * a0)) = j_ := ⟨_, rfl⟩
  replace H : (if 0 ≤ (ji3) then (if (ji3 : Int).toNat ≤ 17592186044416 then (impl_counterBoard.l0 k a0 a1 0 (wrap64 (2 * a0)) 3 (List.replicate (ji3 : Int).toNat z71)) else (none)) else (none)) = some (r1, r2, r3) := by first | (rw [hji3] at H; exact H) | (simp only [hji3] at H ⊢; exact H)
  have hji3w : (IntKind.i64.wrap (6 * a0)) = ji3 := (i64_w _).trans hji3
  by_cases c4 : 0 ≤ (ji3)
  · rw [if_pos c4] at H
    have c4b0 := eq_true c4
    have c4b1 : decide (0 ≤ (ji3)) = true := decide_eq_true c4
    clear c4
    by_cases c5 : (ji3 : Int).toNat ≤ 17592186044416
    · rw [if_pos c5] at H
      have c5b0 := eq_true c5
      have c5b1 : decide ((ji3 : Int).toNat ≤ 17592186044416) = true := decide_eq_true c5
      clear c5
      obtain ⟨y150, hy150⟩ : ∃ y_ : List (S71), y_ = (List.replicate (ji3 : Int).toNat z71) := ⟨_, rfl⟩
      replace H : (impl_counterBoard.l0 k a0 a1 0 (wrap64 (2 * a0)) 3 y150) = some (r1, r2, r3) := by first | (rw [hy150]; with_reducible exact H) | (have H2_ := (Option.bind_some _ _).symm.trans H; rw [hy150]; with_reducible exact H2_) | (have H2_ := (Option.bind_some _ _).symm.trans H; with_reducible exact H2_) | with_reducible exact H | (rw [hy150]; exact H) | exact H
      have Ny150 := Aside0.mk hy150
      clear hy150
      have H' := Aside0.mk H
      clear H
      go_enter Try.func58, Try.ntmps58
      go_wp2_with (first | ((with_reducible refine gate_dst (N := 4) rfl ?_); refine box_event ?hg (N := 4) ?hd (cs := #[.int .i64 0, .int .i64 0, .slice none 0 0]) (t := 24) ?hr ?_; (case hd => rfl); (case hg => rfl); (case hr => first | (go_simp; done) | (go_simp; rfl)); intro gb149 hg w6 hbox hb; have n0_ := Aside0.mk (below_step (by repeat (first | (with_reducible first | exact HB.out | apply below_alloc | apply pw_below_drewN | apply below_drew1) | exact HB.out)) hb); have n1_ := Aside0.mk (hbox); have n2_ := Aside0.mk ((by rw [hg]; exact (below_size (by repeat (first | (with_reducible first | exact HB.out | apply below_alloc | apply pw_below_drewN | apply below_drew1) | exact HB.out))) : w.heap.size ≤ gb149)); have n3_ := Aside0.mk ((by rw [hg]; exact (below_size (by repeat (first | (with_reducible first | exact HB.out | apply below_alloc | apply pw_below_drewN | apply below_drew1) | exact HB.out))) : w.heap.size ≤ gb149)); clear HB; have HB := n0_; have BK149 := n1_; have GW149 := n2_; have GE149 := n3_; clear n0_ n1_ n2_ n3_; clear hb hbox hg) | ((with_reducible refine gate_dst (N := 11) rfl ?_); refine Kd.R_make k71 _ 71 rfl (N := 11) rfl 22 _ _ rfl ji3 rfl rfl Try.underlying22 (.agg #[(.int .i64 0), (.int .i64 0)]) 16 info71 rfl (by decide) (by omega) z71 (ok := fun _ => True) (okp := fun _ => True) (k71_mkM _ _ _ z71 ) (fun _ hk => hk) trivial (of_decide_eq_true (by first | (with_reducible assumption) | assumption)) (Nat.le_trans (Nat.mul_le_mul_right _ (of_decide_eq_true (by first | (with_reducible assumption) | assumption) : ji3.toNat ≤ 17592186044416)) (by omega)) (Below.refl _ _) (Nat.le_refl _) ?_; intro v151 w7 ho8 hb hg_ hnew_; clear hg_ hnew_; (first | rw [← Ny150.out] at ho8 | (simp only [Int.reduceToNat] at ho8; rw [← Ny150.out] at ho8)); have n0_ := Aside0.mk (Kd.R_lower ho8 (below_size (by repeat (first | (with_reducible first | exact HB.out | apply below_alloc | apply pw_below_drewN | apply below_drew1 | refine below_set ?_ GE149.out) | exact HB.out)))); have n1_ := Aside0.mk (blk_below (g := gb149) (o := .cells #[.int .i64 0, .int .i64 0, .slice none 0 0] 24 (0, 0)) (by (with_reducible repeat (first | refine blk_drewN ?_ _ | refine blk_drew ?_ | refine blk_alloc ?_ _)); exact BK149.out) hb); have n2_ := Aside0.mk (below_step (by repeat (first | (with_reducible first | exact HB.out | apply below_alloc | apply pw_below_drewN | apply below_drew1 | refine below_set ?_ GE149.out) | exact HB.out)) hb); clear BK149; clear HB; have HO152 := n0_; have BK149 := n1_; have HB := n2_; clear n0_ n1_ n2_; clear hb ho8; obtain ⟨Ao9, co9, eo9⟩ := Kd.R_slice HO152.out; subst eo9) | ((with_reducible refine gate_dst (N := 5) rfl ?_); refine box_event ?hg (N := 5) ?hd (cs := #[.int .i64 0, .int .i64 0, .slice none 0 0]) (t := 24) ?hr ?_; (case hd => rfl); (case hg => rfl); (case hr => first | (go_simp; done) | (go_simp; rfl)); intro gb153 hg w10 hbox hb; have n0_ := Aside0.mk (Kd.R_below (by (with_reducible repeat (first | apply Kd.R_alloc | apply Kd.R_drewN | apply Kd.R_drew)); exact HO152.out) hb); have n1_ := Aside0.mk (blk_below (g := gb149) (o := .cells #[.int .i64 0, .int .i64 0, .slice none 0 0] 24 (0, 0)) (by (with_reducible repeat (first | refine blk_drewN ?_ _ | refine blk_drew ?_ | refine blk_alloc ?_ _)); exact BK149.out) hb); have n2_ := Aside0.mk (below_step (by repeat (first | (with_reducible first | exact HB.out | apply below_alloc | apply pw_below_drewN | apply below_drew1 | refine below_set ?_ GE149.out) | exact HB.out)) hb); have n3_ := Aside0.mk (hbox); have n4_ := Aside0.mk ((by rw [hg]; exact (below_size (by repeat (first | (with_reducible first | exact HB.out | apply below_alloc | apply pw_below_drewN | apply below_drew1 | refine below_set ?_ GE149.out) | exact HB.out))) : w.heap.size ≤ gb153)); have n5_ := Aside0.mk ((by rw [hg]; exact (below_size (by repeat (first | (with_reducible first | exact HB.out | apply below_alloc | apply pw_below_drewN | apply below_drew1 | refine below_set ?_ GE149.out) | exact HB.out))) : w.heap.size ≤ gb153)); have n6_ := Aside0.mk ((by rw [hg]; exact Nat.ne_of_lt (blk_lt (g := gb149) (o := .cells #[.int .i64 0, .int .i64 0, .slice none 0 0] 24 (0, 0)) (by (with_reducible repeat (first | refine blk_drewN ?_ _ | refine blk_drew ?_ | refine blk_alloc ?_ _)); exact BK149.out)) : gb149 ≠ gb153)); have n7_ := Aside0.mk ((by rw [hg]; exact Nat.ne_of_gt (blk_lt (g := gb149) (o := .cells #[.int .i64 0, .int .i64 0, .slice none 0 0] 24 (0, 0)) (by (with_reducible repeat (first | refine blk_drewN ?_ _ | refine blk_drew ?_ | refine blk_alloc ?_ _)); exact BK149.out)) : gb153 ≠ gb149)); clear HO152; clear BK149; clear HB; have HO152 := n0_; have BK149 := n1_; have HB := n2_; have BK153 := n3_; have GW153 := n4_; have GE153 := n5_; have NB149_153 := n6_; have NB153_149 := n7_; clear n0_ n1_ n2_ n3_ n4_ n5_ n6_ n7_; clear hb hbox hg; have hnb11 := NB153_149.out; have hnc11 := NB149_153.out; have hcz12_0 : w10.cell? ⟨gb153, 0, none⟩ = some (.int .i64 0) := (blk_cell BK153.out 0).trans rfl; have hcz12_1 : w10.cell? ⟨gb153, 1, none⟩ = some (.int .i64 0) := (blk_cell BK153.out 1).trans rfl; have hcz12_2 : w10.cell? ⟨gb153, 2, none⟩ = some (.slice none 0 0) := (blk_cell BK153.out 2).trans rfl; have hfz12_0 := blk_frozen BK153.out 0; have hfz12_1 := blk_frozen BK153.out 1; have hfz12_2 := blk_frozen BK153.out 2))
      go_loopg [6] k (fun kq v6 w' => ∃ (x6_1 : Int) (x154002_1 : List (S71)) (u154002 : Value), v6 = .int .i64 x6_1 ∧ Aside0 (impl_counterBoard.l0 kq a0 a1 x6_1 (wrap64 (2 * a0)) 3 x154002_1 = some (r1, r2, r3)) ∧ Aside0 (kq ≤ k) ∧ Aside0 (Kd.R k71 71 w' w.heap.size (fun _ => True) u154002 x154002_1) ∧ Aside0 (w'.heap[gb149]? = some (.cells #[.int .i64 0, .int .i64 0, (.slice none 0 0)] 24 (0, 0))) ∧ Aside0 (w'.heap[gb153]? = some (.cells #[.int .i64 (wrap64 (2 * a0)), .int .i64 3, u154002] 24 (0, 0))) ∧ Aside0 (Below w.heap.size w w'))
      case atStart => exact ⟨(0), (y150), (.slice Ao9 y150.length co9), (by first | rfl | (simp; done) | (simp [*]; done)), H', ⟨Nat.le_refl _⟩, ⟨by (with_reducible repeat (first | apply Kd.R_alloc | apply Kd.R_drewN | apply Kd.R_drew)); exact Kd.R_mono (Kd.R_far (p := ⟨gb153, 2, none⟩) (Kd.R_far (p := ⟨gb153, 1, none⟩) (Kd.R_far (p := ⟨gb153, 0, none⟩) (Kd.R_types HO152.out BK153.out (by decide)) (fun _ hk => hk.2) (.int .i64 (wrap64 (2 * a0)))) (fun _ hk => hk.2) (.int .i64 3)) (fun _ hk => hk.2) (.slice Ao9 y150.length co9)) (fun _ hk => trivial)⟩, ⟨by (with_reducible repeat (first | refine blk_drewN ?_ _ | refine blk_drew ?_ | refine blk_alloc ?_ _)); refine blk_far ?_ NB149_153.out _; (with_reducible repeat (first | refine blk_drewN ?_ _ | refine blk_drew ?_ | refine blk_alloc ?_ _)); refine blk_far ?_ NB149_153.out _; (with_reducible repeat (first | refine blk_drewN ?_ _ | refine blk_drew ?_ | refine blk_alloc ?_ _)); refine blk_far ?_ NB149_153.out _; (with_reducible repeat (first | refine blk_drewN ?_ _ | refine blk_drew ?_ | refine blk_alloc ?_ _)); exact BK149.out⟩, ⟨by (with_reducible repeat (first | refine blk_drewN ?_ _ | refine blk_drew ?_ | refine blk_alloc ?_ _)); refine blk_put (cs := #[.int .i64 (wrap64 (2 * a0)), .int .i64 3, .slice none 0 0]) ?_ 2 _ rfl; (with_reducible repeat (first | refine blk_drewN ?_ _ | refine blk_drew ?_ | refine blk_alloc ?_ _)); refine blk_put (cs := #[.int .i64 (wrap64 (2 * a0)), .int .i64 0, .slice none 0 0]) ?_ 1 _ rfl; (with_reducible repeat (first | refine blk_drewN ?_ _ | refine blk_drew ?_ | refine blk_alloc ?_ _)); refine blk_put (cs := #[.int .i64 0, .int .i64 0, .slice none 0 0]) ?_ 0 _ rfl; (with_reducible repeat (first | refine blk_drewN ?_ _ | refine blk_drew ?_ | refine blk_alloc ?_ _)); exact BK153.out⟩, ⟨by repeat (first | (with_reducible first | exact HB.out | apply below_alloc | apply pw_below_drewN | apply below_drew1 | refine below_set ?_ GE149.out | refine below_set ?_ GE153.out) | exact HB.out)⟩⟩
      case round =>
        clear H'
        try clear c1
        try clear p2
        try clear c4
        try clear c4b0
        try clear c4b1
        try clear c5
        try clear c5b0
        try clear c5b1
        try clear p6
        try clear c11
        try clear hcz12_0
        try clear hcz12_1
        try clear hcz12_2
        try clear hfz12_0
        try clear hfz12_1
        try clear hfz12_2
        obtain ⟨x6_1, x154002_1, u154002, rfl, HA, HK1, HO_154002, BK149, BK153, HB⟩ := hrel
        cases gk with
        | zero => exact absurd HA.out (by simp [impl_counterBoard.l0])
        | succ k1 =>
          have H := HA.out
          clear HA
          simp only [impl_counterBoard.l0] at H
          by_cases c13 : x6_1 < a0
          · rw [if_pos c13] at H
            have c13b0 : decide (x6_1 < a0) = true := decide_eq_true c13
            clear c13
            by_cases c14 : 0 ≤ x6_1
            · rw [if_pos c14] at H
              have c14b0 := eq_true c14
              have c14b1 : decide (0 ≤ x6_1) = true := decide_eq_true c14
              clear c14
              obtain ⟨ji15, hji15⟩ : ∃ j_ : Int, (shr .i64 a1 x6_1) = j_ := ⟨_, rfl⟩
              replace H : (if 0 ≤ (wrap64 ((wrap64 (6 * x6_1)) + 1)) then (if (wrap64 ((wrap64 (6 * x6_1)) + 1)) < (x154002_1.length : Int) then (if 0 ≤ (wrap64 ((wrap64 (6 * x6_1)) + 5)) then (if (wrap64 ((wrap64 (6 * x6_1)) + 5)) < (x154002_1.length : Int) then (impl_counterBoard.l0 k1 a0 a1 (wrap64 (x6_1 + 1)) (wrap64 (2 * a0)) 3 ((x154002_1.set ((wrap64 ((wrap64 (6 * x6_1)) + 1)) : Int).toNat (⟨3, Go.bits .and .i64 (ji15) 1⟩ : S71)).set ((wrap64 ((wrap64 (6 * x6_1)) + 5)) : Int).toNat (⟨1, 0⟩ : S71))) else (none)) else (none)) else (none)) else (none)) = some (r1, r2, r3) := by first | (rw [hji15] at H; exact H) | (simp only [hji15] at H ⊢; exact H)
              have hji15_ : (a1 / 2 ^ min x6_1.toNat 64) = ji15 := hji15
              have hji15z : x6_1 ≤ 64 → (a1 / 2 ^ x6_1.toNat) = ji15 := shr_small hji15
              obtain ⟨ji16, hji16⟩ : ∃ j_ : Int, (wrap64 ((wrap64 (6 * x6_1)) + 1)) = j_ := ⟨_, rfl⟩
              replace H : (if 0 ≤ (ji16) then (if (ji16) < (x154002_1.length : Int) then (if 0 ≤ (wrap64 ((wrap64 (6 * x6_1)) + 5)) then (if (wrap64 ((wrap64 (6 * x6_1)) + 5)) < (x154002_1.length : Int) then (impl_counterBoard.l0 k1 a0 a1 (wrap64 (x6_1 + 1)) (wrap64 (2 * a0)) 3 ((x154002_1.set ((ji16) : Int).toNat (⟨3, Go.bits .and .i64 (ji15) 1⟩ : S71)).set ((wrap64 ((wrap64 (6 * x6_1)) + 5)) : Int).toNat (⟨1, 0⟩ : S71))) else (none)) else (none)) else (none)) else (none)) = some (r1, r2, r3) := by first | (rw [hji16] at H; exact H) | (simp only [hji16] at H ⊢; exact H)
              have hji16w : (IntKind.i64.wrap ((wrap64 (6 * x6_1)) + 1)) = ji16 := (i64_w _).trans hji16
              by_cases c17 : 0 ≤ (ji16)
              · rw [if_pos c17] at H
                have c17b0 : decide (0 ≤ (ji16)) = true := decide_eq_true c17
                clear c17
                by_cases c18 : (ji16) < (x154002_1.length : Int)
                · rw [if_pos c18] at H
                  have c18b0 : decide ((ji16) < (x154002_1.length : Int)) = true := decide_eq_true c18
                  clear c18
                  obtain ⟨y154, hy154⟩ : ∃ y_ : List (S71), y_ = (x154002_1.set ((ji16) : Int).toNat (⟨3, Go.bits .and .i64 (ji15) 1⟩ : S71)) := ⟨_, rfl⟩
                  replace H : (if 0 ≤ (wrap64 ((wrap64 (6 * x6_1)) + 5)) then (if (wrap64 ((wrap64 (6 * x6_1)) + 5)) < (x154002_1.length : Int) then (impl_counterBoard.l0 k1 a0 a1 (wrap64 (x6_1 + 1)) (wrap64 (2 * a0)) 3 (y154.set ((wrap64 ((wrap64 (6 * x6_1)) + 5)) : Int).toNat (⟨1, 0⟩ : S71))) else (none)) else (none)) = some (r1, r2, r3) := by first | (rw [hy154]; with_reducible exact H) | (have H2_ := (Option.bind_some _ _).symm.trans H; rw [hy154]; with_reducible exact H2_) | (have H2_ := (Option.bind_some _ _).symm.trans H; with_reducible exact H2_) | with_reducible exact H | (rw [hy154]; exact H) | exact H
                  have Ny154 := Aside0.mk hy154
                  clear hy154
                  obtain ⟨ji20, hji20⟩ : ∃ j_ : Int, (wrap64 ((wrap64 (6 * x6_1)) + 5)) = j_ := ⟨_, rfl⟩
                  replace H : (if 0 ≤ (ji20) then (if (ji20) < (x154002_1.length : Int) then (impl_counterBoard.l0 k1 a0 a1 (wrap64 (x6_1 + 1)) (wrap64 (2 * a0)) 3 (y154.set ((ji20) : Int).toNat (⟨1, 0⟩ : S71))) else (none)) else (none)) = some (r1, r2, r3) := by first | (rw [hji20] at H; exact H) | (simp only [hji20] at H ⊢; exact H)
                  have hji20w : (IntKind.i64.wrap ((wrap64 (6 * x6_1)) + 5)) = ji20 := (i64_w _).trans hji20
                  by_cases c21 : 0 ≤ (ji20)
                  · rw [if_pos c21] at H
                    have c21b0 : decide (0 ≤ (ji20)) = true := decide_eq_true c21
                    clear c21
                    by_cases c22 : (ji20) < (x154002_1.length : Int)
                    · rw [if_pos c22] at H
                      have c22b0 : decide ((ji20) < (x154002_1.length : Int)) = true := decide_eq_true c22
                      clear c22
                      obtain ⟨y155, hy155⟩ : ∃ y_ : List (S71), y_ = (y154.set ((ji20) : Int).toNat (⟨1, 0⟩ : S71)) := ⟨_, rfl⟩
                      replace H : (impl_counterBoard.l0 k1 a0 a1 (wrap64 (x6_1 + 1)) (wrap64 (2 * a0)) 3 y155) = some (r1, r2, r3) := by first | (rw [hy155]; with_reducible exact H) | (have H2_ := (Option.bind_some _ _).symm.trans H; rw [hy155]; with_reducible exact H2_) | (have H2_ := (Option.bind_some _ _).symm.trans H; with_reducible exact H2_) | with_reducible exact H | (rw [hy155]; exact H) | exact H
                      have Ny155 := Aside0.mk hy155
                      clear hy155
                      have H' := Aside0.mk H
                      clear H
                      try go_wp2
                      have n0_ := Aside0.mk (Kd.R_drew HO_154002.out)
                      have n1_ := Aside0.mk (blk_drew BK149.out)
                      have n2_ := Aside0.mk (blk_drew BK153.out)
                      have n3_ := Aside0.mk (below_drew1 HB.out)
                      clear HO_154002
                      clear BK149
                      clear BK153
                      clear HB
                      have HO_154002 := n0_
                      have BK149 := n1_
                      have BK153 := n2_
                      have HB := n3_
                      clear n0_ n1_ n2_ n3_
                      have p19 : 0 ≤ ((ji16) : Int) := of_decide_eq_true (by first | (with_reducible assumption) | assumption)
                      have q19 : ((ji16) : Int) < ((x154002_1.length : Int) : Int) := of_decide_eq_true (by first | (with_reducible assumption) | assumption)
                      obtain ⟨go19, co19, eo19, gb19, gl19, cl19, HG19⟩ := Kd.R_form HO_154002.out (by omega)
                      (first | cases eo19 | (injection eo19 with ea_ en_ ec_; (first | subst ea_ | (injection ea_ with ea_; subst ea_)); subst ec_; clear en_))
                      have GB19 := Aside0.mk gb19
                      have GG19 := Aside0.mk HG19
                      clear gb19 gl19 HG19
                      obtain ⟨ce19, hcl19, hM19, hcc19, hfr19⟩ := Kd.R_elem HO_154002.out z71 ((ji16) : Int) p19 q19
                      obtain rfl := k71_openM hM19
                      have hx19_0 : World.cell? _ ⟨go19, ((ji16) : Int).toNat * 2, none⟩ = some (.int .i64 ((rd_T71 x154002_1 (ji16)).f0)) := hcc19 0 _ rfl
                      have hx19_1 : World.cell? _ ⟨go19, ((ji16) : Int).toNat * 2 + 1, none⟩ = some (.int .i64 ((rd_T71 x154002_1 (ji16)).f1)) := hcc19 1 _ rfl
                      have hf19_0 : World.frozen? _ ⟨go19, ((ji16) : Int).toNat * 2, none⟩ = false := hfr19 0
                      have hf19_1 : World.frozen? _ ⟨go19, ((ji16) : Int).toNat * 2 + 1, none⟩ = false := hfr19 1
                      clear hcl19 hcc19 hfr19 hM19
                      replace p19 := eq_true p19
                      replace q19 := eq_true q19
                      obtain ⟨ce25, hcl25, hM25, hcc25, hfr25⟩ := Kd.R_elem HO_154002.out z71 ((ji16) : Int) (of_decide_eq_true (by first | (with_reducible assumption) | assumption)) (by have h_ : ((ji16) : Int) < ((x154002_1.length : Int) : Int) := of_decide_eq_true (by first | (with_reducible assumption) | assumption); first | exact h_ | (have e_ := (Kd.R_reads' HO_154002.out).1; omega) | simpa using h_)
                      obtain rfl := k71_openM hM25
                      have HP25 := (Kd.R_seg HO_154002.out ((ji16) : Int) (of_decide_eq_true (by first | (with_reducible assumption) | assumption)) (by have h_ : ((ji16) : Int) < ((x154002_1.length : Int) : Int) := of_decide_eq_true (by first | (with_reducible assumption) | assumption); first | exact h_ | (have e_ := (Kd.R_reads' HO_154002.out).1; omega) | simpa using h_) (seg := [.int .i64 3, .int .i64 (Go.bits .and .i64 (ji15) 1)]) (j := 0) hcl25 hcc25 (show 2 ≤ 2 from by decide) (x' := (⟨3, Go.bits .and .i64 (ji15) 1⟩ : S71)) (k71_mkM _ _ _ (⟨3, Go.bits .and .i64 (ji15) 1⟩ : S71) ) (fun _ hk => hk)).1
                      rw [← Ny154.out] at HP25
                      have HQ25 := Aside0.mk HP25
                      clear hcl25 hcc25 hfr25 hM25 HP25
                      refine start_ (n := 12) (S := fun w' => w'.cell? ⟨gb153, 0, none⟩ = some (.int .i64 (wrap64 (2 * a0))) ∧ w'.cell? ⟨gb153, 1, none⟩ = some (.int .i64 3) ∧ w'.cell? ⟨gb153, 2, none⟩ = some (.slice (some ⟨go19, 0, none⟩) x154002_1.length co19)) (ds := [11]) #[false, false, false, false, false, false, false, false, false, false, false, false] (by kernel_rfl) rfl rfl ⟨(blk_cell BK153.out 0).trans rfl, (blk_cell BK153.out 1).trans rfl, (blk_cell BK153.out 2).trans rfl⟩ (fun hHeld => ?_); refine with_tabW impl_counterBoard.tab5 impl_counterBoard.bits5 (fun HT_ HW_ => ?_)
                      generalize wr.drew = w24 at HO_154002 BK149 BK153 HB GG19 HQ25 hf19_0 hf19_1 hx19_0 hx19_1 hHeld ⊢
                      refine pure_ (i := 0) (N := some 18) (v := ?_) (a' := ?_) #[true, false, false, false, false, false, false, false, false, false, false, false] rfl rfl (any_of HT_.out (by kernel_rfl)) (fun _ _ _ h => h) (Or.inl ⟨by rfl, ?_⟩) ?_ ?_
                      rotate_left
                      · intro w'
                        go_simp
                        with_reducible rfl
                      rotate_left
                      · simp only [Act.put, List.setIfInBounds_toArray, List.set_cons_zero, List.set_cons_succ, i64_w, i32_w]
                        rfl
                      refine pure_ (i := 2) (N := some 20) (v := ?_) (a' := ?_) #[true, false, true, false, false, false, false, false, false, false, false, false] rfl rfl (any_of HT_.out (by kernel_rfl)) (fun _ _ _ h => h) (Or.inl ⟨by rfl, ?_⟩) ?_ ?_
                      rotate_left
                      · intro w'
                        go_simp
                        with_reducible rfl
                      rotate_left
                      · simp only [Act.put, List.setIfInBounds_toArray, List.set_cons_zero, List.set_cons_succ, i64_w, i32_w]
                        rfl
                      refine pure_ (i := 3) (N := some 21) (v := ?_) (a' := ?_) #[true, false, true, true, false, false, false, false, false, false, false, false] rfl rfl (any_of HT_.out (by kernel_rfl)) (fun _ _ _ h => h) (Or.inl ⟨by rfl, ?_⟩) ?_ ?_
                      rotate_left
                      · intro w'
                        go_simp
                        with_reducible rfl
                      rotate_left
                      · simp only [Act.put, List.setIfInBounds_toArray, List.set_cons_zero, List.set_cons_succ, i64_w, i32_w]
                        rfl
                      refine pure_ (i := 4) (N := some 22) (v := ?_) (a' := ?_) #[true, false, true, true, true, false, false, false, false, false, false, false] rfl rfl (any_of HT_.out (by kernel_rfl)) (fun _ _ _ h => h) (Or.inl ⟨by rfl, ?_⟩) ?_ ?_
                      rotate_left
                      · intro w'
                        go_simp
                        with_reducible rfl
                      rotate_left
                      · simp only [Act.put, List.setIfInBounds_toArray, List.set_cons_zero, List.set_cons_succ, i64_w, i32_w]
                        rfl
                      refine pure_ (i := 5) (N := some 23) (v := ?_) (a' := ?_) #[true, false, true, true, true, true, false, false, false, false, false, false] rfl rfl (any_of HT_.out (by kernel_rfl)) (fun _ _ _ h => h) (Or.inl ⟨by rfl, ?_⟩) ?_ ?_
                      rotate_left
                      · intro w'
                        go_simp
                        with_reducible rfl
                      rotate_left
                      · simp only [Act.put, List.setIfInBounds_toArray, List.set_cons_zero, List.set_cons_succ, i64_w, i32_w]
                        rfl
                      refine pure_ (i := 6) (N := some 24) (v := ?_) (a' := ?_) #[true, false, true, true, true, true, true, false, false, false, false, false] rfl rfl (any_of HT_.out (by kernel_rfl)) (fun _ _ _ h => h) (Or.inl ⟨by rfl, ?_⟩) ?_ ?_
                      rotate_left
                      · intro w'
                        go_simp
                        with_reducible rfl
                      rotate_left
                      · simp only [Act.put, List.setIfInBounds_toArray, List.set_cons_zero, List.set_cons_succ, i64_w, i32_w]
                        rfl
                      refine pure_ (i := 7) (N := some 25) (v := ?_) (a' := ?_) #[true, false, true, true, true, true, true, true, false, false, false, false] rfl rfl (any_of HT_.out (by kernel_rfl)) (fun _ _ _ h => h) (Or.inl ⟨by rfl, ?_⟩) ?_ ?_
                      rotate_left
                      · intro w'
                        go_simp
                        with_reducible rfl
                      rotate_left
                      · simp only [Act.put, List.setIfInBounds_toArray, List.set_cons_zero, List.set_cons_succ, i64_w, i32_w]
                        rfl
                      refine pure_ (i := 8) (N := some 26) (v := ?_) (a' := ?_) #[true, false, true, true, true, true, true, true, true, false, false, false] rfl rfl (any_of HT_.out (by kernel_rfl)) (fun _ _ _ h => h) (Or.inl ⟨by rfl, ?_⟩) ?_ ?_
                      rotate_left
                      · intro w'
                        go_simp
                        with_reducible rfl
                      rotate_left
                      · simp only [Act.put, List.setIfInBounds_toArray, List.set_cons_zero, List.set_cons_succ, i64_w, i32_w]
                        rfl
                      refine pure_ (i := 9) (N := some 27) (v := ?_) (a' := ?_) #[true, false, true, true, true, true, true, true, true, true, false, false] rfl rfl (any_of HT_.out (by kernel_rfl)) (fun _ _ _ h => h) (Or.inl ⟨by rfl, ?_⟩) ?_ ?_
                      rotate_left
                      · intro w'
                        go_simp
                        with_reducible rfl
                      rotate_left
                      · simp only [Act.put, List.setIfInBounds_toArray, List.set_cons_zero, List.set_cons_succ, i64_w, i32_w]
                        rfl
                      refine take_ (i := 1) (N := some 19) (v := ?_) (a' := ?_) #[true, true, true, true, true, true, true, true, true, true, false, false] rfl rfl (take_ofW HT_.out HW_.out (by kernel_rfl)) (fun _ _ _ h => h) (Or.inl ⟨by rfl, ?_⟩) hHeld ?_ ?_
                      rotate_left
                      · rintro w' ⟨s0, s1, s2⟩
                        go_simp
                        with_reducible rfl
                      rotate_left
                      · simp only [Act.put, List.setIfInBounds_toArray, List.set_cons_zero, List.set_cons_succ, i64_w, i32_w]
                        rfl
                      refine pure_ (i := 10) (N := some 28) (v := ?_) (a' := ?_) #[true, true, true, true, true, true, true, true, true, true, true, false] rfl rfl (any_of HT_.out (by kernel_rfl)) (fun _ _ _ h => h) (Or.inl ⟨by rfl, ?_⟩) ?_ ?_
                      rotate_left
                      · intro w'
                        go_simp
                        with_reducible rfl
                      rotate_left
                      · simp only [Act.put, List.setIfInBounds_toArray, List.set_cons_zero, List.set_cons_succ, i64_w, i32_w]
                        rfl
                      refine last_ (i := 11) (N := none) #[true, true, true, true, true, true, true, true, true, true, true, true] rfl rfl (one_of HT_.out (by kernel_rfl)) (by decide) (fun K hK => ?_)
                      refine skip_ (w1 := ?_) (by rfl) rfl ?_ ?_
                      rotate_left
                      · go_simp
                        rfl
                      refine hK.out _ _ ?_
                      clear hK K
                      refine done_ (done_of HT_.out (by kernel_rfl)) ?_
                      have n0_ : Aside0 (Kd.R k71 71 ((w24.setCell ⟨go19, ((ji16) : Int).toNat * 2, none⟩ (.int .i64 3)).setCell ⟨go19, ((ji16) : Int).toNat * 2 + 1, none⟩ (.int .i64 (Go.bits .and .i64 (ji15) 1))) w.heap.size (fun _ => True) (.slice (some ⟨go19, 0, none⟩) x154002_1.length co19) y154) := ⟨by (with_reducible repeat (first | apply Kd.R_alloc | apply Kd.R_drewN | apply Kd.R_drew)); exact HQ25.out⟩
                      have n1_ : Aside0 (((w24.setCell ⟨go19, ((ji16) : Int).toNat * 2, none⟩ (.int .i64 3)).setCell ⟨go19, ((ji16) : Int).toNat * 2 + 1, none⟩ (.int .i64 (Go.bits .and .i64 (ji15) 1))).heap[gb149]? = some (.cells #[.int .i64 0, .int .i64 0, .slice none 0 0] 24 (0, 0))) := ⟨by (with_reducible repeat (first | refine blk_drewN ?_ _ | refine blk_drew ?_ | refine blk_alloc ?_ _)); refine blk_far ?_ (by have h_ := Kd.R_ne HO_154002.out BK149.out (by decide); intro e_; exact h_ (by rw [e_]; rfl)) _; (with_reducible repeat (first | refine blk_drewN ?_ _ | refine blk_drew ?_ | refine blk_alloc ?_ _)); refine blk_far ?_ (by have h_ := Kd.R_ne HO_154002.out BK149.out (by decide); intro e_; exact h_ (by rw [e_]; rfl)) _; (with_reducible repeat (first | refine blk_drewN ?_ _ | refine blk_drew ?_ | refine blk_alloc ?_ _)); exact BK149.out⟩
                      have n2_ : Aside0 (((w24.setCell ⟨go19, ((ji16) : Int).toNat * 2, none⟩ (.int .i64 3)).setCell ⟨go19, ((ji16) : Int).toNat * 2 + 1, none⟩ (.int .i64 (Go.bits .and .i64 (ji15) 1))).heap[gb153]? = some (.cells #[.int .i64 (wrap64 (2 * a0)), .int .i64 3, .slice (some ⟨go19, 0, none⟩) x154002_1.length co19] 24 (0, 0))) := ⟨by (with_reducible repeat (first | refine blk_drewN ?_ _ | refine blk_drew ?_ | refine blk_alloc ?_ _)); refine blk_far ?_ (by have h_ := Kd.R_ne HO_154002.out BK153.out (by decide); intro e_; exact h_ (by rw [e_]; rfl)) _; (with_reducible repeat (first | refine blk_drewN ?_ _ | refine blk_drew ?_ | refine blk_alloc ?_ _)); refine blk_far ?_ (by have h_ := Kd.R_ne HO_154002.out BK153.out (by decide); intro e_; exact h_ (by rw [e_]; rfl)) _; (with_reducible repeat (first | refine blk_drewN ?_ _ | refine blk_drew ?_ | refine blk_alloc ?_ _)); exact BK153.out⟩
                      have n3_ : Aside0 (Below w.heap.size w ((w24.setCell ⟨go19, ((ji16) : Int).toNat * 2, none⟩ (.int .i64 3)).setCell ⟨go19, ((ji16) : Int).toNat * 2 + 1, none⟩ (.int .i64 (Go.bits .and .i64 (ji15) 1)))) := ⟨by repeat (first | (with_reducible first | exact HB.out | apply below_alloc | apply pw_below_drewN | apply below_drew1 | refine below_set ?_ GB19.out | refine below_set ?_ GB19.out | refine below_set ?_ GE149.out | refine below_set ?_ GE153.out) | exact HB.out)⟩
                      (try clear HO_154002)
                      (try clear BK149)
                      (try clear BK153)
                      (try clear HB)
                      generalize ((w24.setCell ⟨go19, ((ji16) : Int).toNat * 2, none⟩ (.int .i64 3)).setCell ⟨go19, ((ji16) : Int).toNat * 2 + 1, none⟩ (.int .i64 (Go.bits .and .i64 (ji15) 1))) = w26 at n0_ n1_ n2_ n3_ ⊢
                      have HO_154002 := n0_
                      have BK149 := n1_
                      have BK153 := n2_
                      have HB := n3_
                      clear n0_ n1_ n2_ n3_
                      have hnb27 := NB153_149.out
                      have hnc27 := NB149_153.out
                      have hcz28_0 : w26.cell? ⟨gb153, 0, none⟩ = some (.int .i64 (wrap64 (2 * a0))) := (blk_cell BK153.out 0).trans rfl
                      have hcz28_1 : w26.cell? ⟨gb153, 1, none⟩ = some (.int .i64 3) := (blk_cell BK153.out 1).trans rfl
                      have hcz28_2 : w26.cell? ⟨gb153, 2, none⟩ = some (.slice (some ⟨go19, 0, none⟩) x154002_1.length co19) := (blk_cell BK153.out 2).trans rfl
                      have hfz28_0 := blk_frozen BK153.out 0
                      have hfz28_1 := blk_frozen BK153.out 1
                      have hfz28_2 := blk_frozen BK153.out 2
                      have p23 : 0 ≤ ((ji20) : Int) := of_decide_eq_true (by first | (with_reducible assumption) | assumption)
                      have q23 : ((ji20) : Int) < ((x154002_1.length : Int) : Int) := of_decide_eq_true (by first | (with_reducible assumption) | assumption)
                      obtain ⟨ce23, hcl23, hM23, hcc23, hfr23⟩ := Kd.R_elem HO_154002.out z71 ((ji20) : Int) p23 q23
                      obtain rfl := k71_openM hM23
                      have hx23_0 : w26.cell? ⟨go19, ((ji20) : Int).toNat * 2, none⟩ = some (.int .i64 ((rd_T71 y154 (ji20)).f0)) := hcc23 0 _ rfl
                      have hx23_1 : w26.cell? ⟨go19, ((ji20) : Int).toNat * 2 + 1, none⟩ = some (.int .i64 ((rd_T71 y154 (ji20)).f1)) := hcc23 1 _ rfl
                      have hf23_0 : w26.frozen? ⟨go19, ((ji20) : Int).toNat * 2, none⟩ = false := hfr23 0
                      have hf23_1 : w26.frozen? ⟨go19, ((ji20) : Int).toNat * 2 + 1, none⟩ = false := hfr23 1
                      clear hcl23 hcc23 hfr23 hM23
                      replace p23 := eq_true p23
                      replace q23 := eq_true q23
                      have HX29 := Aside0.mk (show Kd.R k71 71 w26 w.heap.size (fun _ => True) (.slice (some ⟨go19, 0, none⟩) x154002_1.length co19) y154 from (by (with_reducible repeat (first | apply Kd.R_alloc | apply Kd.R_drewN | apply Kd.R_drew)); exact HO_154002.out))
                      obtain ⟨ce29, hcl29, hM29, hcc29, hfr29⟩ := Kd.R_elem HX29.out z71 ((ji20) : Int) (of_decide_eq_true (by first | (with_reducible assumption) | assumption)) (by have h_ : ((ji20) : Int) < ((x154002_1.length : Int) : Int) := of_decide_eq_true (by first | (with_reducible assumption) | assumption); first | exact h_ | (have e_ := (Kd.R_reads' HO_154002.out).1; omega) | simpa using h_)
                      obtain rfl := k71_openM hM29
                      have HP29 := Kd.R_seg HX29.out ((ji20) : Int) (of_decide_eq_true (by first | (with_reducible assumption) | assumption)) (by have h_ : ((ji20) : Int) < ((x154002_1.length : Int) : Int) := of_decide_eq_true (by first | (with_reducible assumption) | assumption); first | exact h_ | (have e_ := (Kd.R_reads' HO_154002.out).1; omega) | simpa using h_) (seg := [.int .i64 1, .int .i64 0]) (j := 0) hcl29 hcc29 (show 2 ≤ 2 from by decide) (x' := (⟨1, 0⟩ : S71)) (k71_mkM _ _ _ (⟨1, 0⟩ : S71) ) (fun _ hk => hk)
                      have hx29_0 := hcc29 0 _ rfl
                      (try simp only [show (k71).sz = 2 from rfl, Nat.mul_one, Nat.add_zero] at hx29_0)
                      have hf29_0 := hfr29 0
                      (try simp only [show (k71).sz = 2 from rfl, Nat.mul_one, Nat.add_zero] at hf29_0)
                      have hx29_1 := hcc29 1 _ rfl
                      (try simp only [show (k71).sz = 2 from rfl, Nat.mul_one, Nat.add_zero] at hx29_1)
                      have hf29_1 := hfr29 1
                      (try simp only [show (k71).sz = 2 from rfl, Nat.mul_one, Nat.add_zero] at hf29_1)
                      clear hcl29 hcc29 hfr29 hM29
                      try go_wp2_with (first | ((with_reducible refine gate_store (t := 71) (p := 35) rfl ?_); refine store_event (t := 71) (p := 35) (v := ?vo_w30) (w1 := ((w26.setCell ⟨go19, ((ji20) : Int).toNat * 2, none⟩ (.int .i64 1)).setCell ⟨go19, ((ji20) : Int).toNat * 2 + 1, none⟩ (.int .i64 0))) ?hg ?ho ?hn ?hr ?_; (case ho => rfl); (case hg => rfl); (case hn => rfl); (case hr => first | (go_simp; done) | (go_simp; rfl)); intro w30 hw; have hg : w26.grownBy w30 (some go19) := (by rw [hw]; exact HP29.2); have hp_ : Kd.R k71 71 w30 w.heap.size (fun _ => True) (.slice (some ⟨go19, 0, none⟩) x154002_1.length co19) y155 := (by rw [hw, Ny155.out]; exact HP29.1); clear HP29; have n0_ := Aside0.mk (hp_); have n1_ := Aside0.mk (blk_grown (g := gb149) (o := .cells #[.int .i64 0, .int .i64 0, .slice none 0 0] 24 (0, 0)) (by (with_reducible repeat (first | refine blk_drewN ?_ _ | refine blk_drew ?_ | refine blk_alloc ?_ _)); exact BK149.out) hg (Kd.R_ne HO_154002.out BK149.out (by decide))); have n2_ := Aside0.mk (blk_grown (g := gb153) (o := .cells #[.int .i64 (wrap64 (2 * a0)), .int .i64 3, .slice (some ⟨go19, 0, none⟩) x154002_1.length co19] 24 (0, 0)) (by (with_reducible repeat (first | refine blk_drewN ?_ _ | refine blk_drew ?_ | refine blk_alloc ?_ _)); exact BK153.out) hg (Kd.R_ne HO_154002.out BK153.out (by decide))); have n3_ := Aside0.mk ((by rw [hw]; exact below_set (below_set (HB.out) GB19.out) GB19.out : Below w.heap.size w w30)); clear HO_154002; clear BK149; clear BK153; clear HB; have HO_154002 := n0_; have BK149 := n1_; have BK153 := n2_; have HB := n3_; clear n0_ n1_ n2_ n3_; clear hg hw hp_))
                      go_roundg k1
                      case measure => have := HK1.out; omega
                      case rel => exact ⟨(wrap64 (x6_1 + 1)), (y155), (.slice (some ⟨go19, 0, none⟩) x154002_1.length co19), (by first | rfl | (simp; done) | (simp [*]; done)), H', ⟨by have := HK1.out; omega⟩, ⟨by (with_reducible repeat (first | apply Kd.R_alloc | apply Kd.R_drewN | apply Kd.R_drew)); exact HO_154002.out⟩, ⟨by (with_reducible repeat (first | refine blk_drewN ?_ _ | refine blk_drew ?_ | refine blk_alloc ?_ _)); exact BK149.out⟩, ⟨by (with_reducible repeat (first | refine blk_drewN ?_ _ | refine blk_drew ?_ | refine blk_alloc ?_ _)); exact BK153.out⟩, ⟨by repeat (first | (with_reducible first | exact HB.out | apply below_alloc | apply pw_below_drewN | apply below_drew1 | refine below_set ?_ GE149.out | refine below_set ?_ GE153.out) | exact HB.out)⟩⟩
                    · rw [if_neg c22] at H
                      exact absurd H (by simp)
                  · rw [if_neg c21] at H
                    exact absurd H (by simp)
                · rw [if_neg c18] at H
                  exact absurd H (by simp)
              · rw [if_neg c17] at H
                exact absurd H (by simp)
            · rw [if_neg c14] at H
              exact absurd H (by simp)
          · rw [if_neg c13] at H
            have c13b0 : decide (x6_1 < a0) = false := decide_eq_false c13
            clear c13
            simp only [Option.some.injEq, Prod.mk.injEq] at H
            obtain ⟨rfl, rfl, rfl⟩ := H
            have hnb31 := NB153_149.out
            have hnc31 := NB149_153.out
            have hcz32_0 : wr.cell? ⟨gb153, 0, none⟩ = some (.int .i64 (wrap64 (2 * a0))) := (blk_cell BK153.out 0).trans rfl
            have hcz32_1 : wr.cell? ⟨gb153, 1, none⟩ = some (.int .i64 3) := (blk_cell BK153.out 1).trans rfl
            have hcz32_2 : wr.cell? ⟨gb153, 2, none⟩ = some (u154002) := (blk_cell BK153.out 2).trans rfl
            have hfz32_0 := blk_frozen BK153.out 0
            have hfz32_1 := blk_frozen BK153.out 1
            have hfz32_2 := blk_frozen BK153.out 2
            have hcz33_0 : wr.cell? ⟨gb149, 0, none⟩ = some (.int .i64 0) := (blk_cell BK149.out 0).trans rfl
            have hcz33_1 : wr.cell? ⟨gb149, 1, none⟩ = some (.int .i64 0) := (blk_cell BK149.out 1).trans rfl
            have hcz33_2 : wr.cell? ⟨gb149, 2, none⟩ = some (.slice none 0 0) := (blk_cell BK149.out 2).trans rfl
            have hfz33_0 := blk_frozen BK149.out 0
            have hfz33_1 := blk_frozen BK149.out 1
            have hfz33_2 := blk_frozen BK149.out 2
            obtain ⟨Ao34, co34, eo34⟩ := Kd.R_slice HO_154002.out
            subst eo34
            go_wp2
            refine bodyPost_ret (results_cell_row rfl _ _ gb149 24 #[.int .i64 (wrap64 (2 * a0)), .int .i64 3, .slice Ao34 x154002_1.length co34] (0, 0) _ rfl (by (with_reducible repeat (first | refine blk_drewN ?_ _ | refine blk_drew ?_ | refine blk_alloc ?_ _)); refine blk_put (cs := #[.int .i64 (wrap64 (2 * a0)), .int .i64 3, .slice none 0 0]) ?_ 2 _ rfl; (with_reducible repeat (first | refine blk_drewN ?_ _ | refine blk_drew ?_ | refine blk_alloc ?_ _)); refine blk_put (cs := #[.int .i64 (wrap64 (2 * a0)), .int .i64 0, .slice none 0 0]) ?_ 1 _ rfl; (with_reducible repeat (first | refine blk_drewN ?_ _ | refine blk_drew ?_ | refine blk_alloc ?_ _)); refine blk_put (cs := #[.int .i64 0, .int .i64 0, .slice none 0 0]) ?_ 0 _ rfl; (with_reducible repeat (first | refine blk_drewN ?_ _ | refine blk_drew ?_ | refine blk_alloc ?_ _)); exact BK149.out) Try.underlying24 rfl (by kernel_rfl)) rfl ?_
            exact ⟨_, by first | rfl | (simp [errW_none, errW_some] <;> rfl) | (simp only [← hji3]; first | rfl | (simp [errW_none, errW_some] <;> rfl)) | (simp [*, errW_none, errW_some] <;> rfl), by (with_reducible repeat (first | apply Kd.R_alloc | apply Kd.R_drewN | apply Kd.R_drew)); exact Kd.R_mono (Kd.R_far (p := ⟨gb149, 2, none⟩) (Kd.R_far (p := ⟨gb149, 1, none⟩) (Kd.R_far (p := ⟨gb149, 0, none⟩) (Kd.R_types HO_154002.out BK149.out (by decide)) (fun _ hk => hk.2) (.int .i64 (wrap64 (2 * a0)))) (fun _ hk => hk.2) (.int .i64 3)) (fun _ hk => hk.2) (.slice Ao34 x154002_1.length co34)) (fun _ hk => trivial), by repeat (first | (with_reducible first | exact HB.out | apply below_alloc | apply pw_below_drewN | apply below_drew1 | refine below_set ?_ GE149.out | refine below_set ?_ GE153.out) | exact HB.out)⟩
    · rw [if_neg c5] at H
      exact absurd H (by simp)
  · rw [if_neg c4] at H
    exact absurd H (by simp)

end Go.Proofs.Ytcilbmbgdcepgaa.P
