-- PRINTED by print.py (a twelfth state) out of the translation. Not trusted: Lean checks it.
import Derived.Test.YtnccomklpfbcpaaZFnExactReadSymmetric0
namespace Go.Proofs.Ytnccomklpfbcpaa.P
open Go.RowKit Go.Proofs.YtnccomklpfbcpaaW.PrintWords Go.Proofs.YtnccomklpfbcpaaW.PrintLast Go.Proofs.YtnccomklpfbcpaaW.PrintMore
attribute [local go_sem] max2_int min2_int max_two min_two max_three min_three max_four min_four   -- for this text's walks alone
set_option linter.unusedVariables false
set_option linter.unusedSimpArgs false

/-! ### spec_cbCounting: function 50 -/
def spec_cbCounting.l0 : Nat → Int → Int → List (S72) → Option (Int × Int × (List (S72)))
  | 0, _, _, _ => none
  | k + 1, x631000, x631001, x631002 => if (x631002.length : Int) < (wrap64 (x631000 * x631001)) then (if x631002.length < 8796093022208 then (spec_cbCounting.l0 k x631000 x631001 (x631002 ++ [(⟨3, 0⟩ : S72)])) else (none)) else (some (x631000, x631001, x631002))
def spec_cbCounting.f (k : Nat) (a0 : Int) : Option (Int × Int × (List (S72))) := spec_cbCounting.l0 k a0 (wrap64 ((wrap64 (2 * a0)) + 1)) ([] : List (S72))
theorem spec_cbCounting.mono_l : ∀ k, (∀ y0 y1 y2, LeO (spec_cbCounting.l0 k y0 y1 y2) (spec_cbCounting.l0 (k + 1) y0 y1 y2))
  | 0 => fun _ _ _ r h => by simp [spec_cbCounting.l0] at h
  | k + 1 => by
    have ih0 := spec_cbCounting.mono_l k
    · intro y0 y1 y2
      unfold spec_cbCounting.l0
      repeat' first
      | (with_reducible exact ih0 _ _ _)
      | (with_reducible exact LeO.refl _)
      | (with_reducible exact LeO.none _)
      | (with_reducible refine LeO.ite ?_ ?_)
      | (with_reducible refine LeO.bind ?_ (fun _ => ?_))
      | exact ih0 _ _ _
      | exact LeO.none _
      | refine LeO.ite ?_ ?_
      | refine LeO.bind ?_ (fun _ => ?_)
theorem spec_cbCounting.mono : ∀ a0 k, LeO (spec_cbCounting.f k a0) (spec_cbCounting.f (k + 1) a0) := by
  intro a0 k
  have ih0 := spec_cbCounting.mono_l k
  unfold spec_cbCounting.f
  repeat' first
      | (with_reducible exact ih0 _ _ _)
      | (with_reducible exact LeO.refl _)
      | (with_reducible exact LeO.none _)
      | (with_reducible refine LeO.ite ?_ ?_)
      | (with_reducible refine LeO.bind ?_ (fun _ => ?_))
      | exact ih0 _ _ _
      | exact LeO.none _
      | refine LeO.ite ?_ ?_
      | refine LeO.bind ?_ (fun _ => ?_)
set_option maxHeartbeats 8000000 in
set_option maxRecDepth 100000 in
theorem spec_cbCounting.calls (k : Nat) (a0 : Int) (r1 : Int) (r2 : Int) (r3 : List (S72)) (w : World) (h : spec_cbCounting.f k a0 = some (r1, r2, r3)) :
    Calls Try.prog 50 #[.int .i64 a0] w fun e w' => ∃ v2_ : Value, e = .returned (.agg #[.int .i64 r1, .int .i64 r2, v2_]) ∧ Kd.R k72 72 w' w.heap.size (fun _ => True) v2_ r3 ∧ Below w.heap.size w w' := by
  have hu39 := Try.underlying39
  have hu72 := Try.underlying72
  have HB := Aside0.mk (Below.refl w.heap.size w)
  have H : (spec_cbCounting.l0 k a0 (wrap64 ((wrap64 (2 * a0)) + 1)) ([] : List (S72))) = some (r1, r2, r3) := h
  clear h
  have H' := Aside0.mk H
  clear H
  go_enter Try.func50, Try.ntmps50
  go_wp2_with (first | ((with_reducible refine gate_dst (N := 2) rfl ?_); refine box_event ?hg (N := 2) ?hd (cs := #[.int .i64 0, .int .i64 0, .slice none 0 0]) (t := 39) ?hr ?_; (case hd => rfl); (case hg => rfl); (case hr => first | (go_simp; done) | (go_simp; rfl)); intro gb629 hg w2 hbox hb; have n0_ := Aside0.mk (below_step (by repeat (first | (with_reducible first | exact HB.out | apply below_alloc | apply pw_below_drewN | apply below_drew1) | exact HB.out)) hb); have n1_ := Aside0.mk (hbox); have n2_ := Aside0.mk ((by rw [hg]; exact (below_size (by repeat (first | (with_reducible first | exact HB.out | apply below_alloc | apply pw_below_drewN | apply below_drew1) | exact HB.out))) : w.heap.size ≤ gb629)); have n3_ := Aside0.mk ((by rw [hg]; exact (below_size (by repeat (first | (with_reducible first | exact HB.out | apply below_alloc | apply pw_below_drewN | apply below_drew1) | exact HB.out))) : w.heap.size ≤ gb629)); clear HB; have HB := n0_; have BK629 := n1_; have GW629 := n2_; have GE629 := n3_; clear n0_ n1_ n2_ n3_; clear hb hbox hg) | ((with_reducible refine gate_dst (N := 3) rfl ?_); refine box_event ?hg (N := 3) ?hd (cs := #[.int .i64 0, .int .i64 0, .slice none 0 0]) (t := 39) ?hr ?_; (case hd => rfl); (case hg => rfl); (case hr => first | (go_simp; done) | (go_simp; rfl)); intro gb630 hg w3 hbox hb; have n0_ := Aside0.mk (blk_below (g := gb629) (o := .cells #[.int .i64 0, .int .i64 0, .slice none 0 0] 39 (0, 0)) (by (with_reducible repeat (first | refine blk_drewN ?_ _ | refine blk_drew ?_ | refine blk_alloc ?_ _)); exact BK629.out) hb); have n1_ := Aside0.mk (below_step (by repeat (first | (with_reducible first | exact HB.out | apply below_alloc | apply pw_below_drewN | apply below_drew1 | refine below_set ?_ GE629.out) | exact HB.out)) hb); have n2_ := Aside0.mk (hbox); have n3_ := Aside0.mk ((by rw [hg]; exact (below_size (by repeat (first | (with_reducible first | exact HB.out | apply below_alloc | apply pw_below_drewN | apply below_drew1 | refine below_set ?_ GE629.out) | exact HB.out))) : w.heap.size ≤ gb630)); have n4_ := Aside0.mk ((by rw [hg]; exact (below_size (by repeat (first | (with_reducible first | exact HB.out | apply below_alloc | apply pw_below_drewN | apply below_drew1 | refine below_set ?_ GE629.out) | exact HB.out))) : w.heap.size ≤ gb630)); have n5_ := Aside0.mk ((by rw [hg]; exact Nat.ne_of_lt (blk_lt (g := gb629) (o := .cells #[.int .i64 0, .int .i64 0, .slice none 0 0] 39 (0, 0)) (by (with_reducible repeat (first | refine blk_drewN ?_ _ | refine blk_drew ?_ | refine blk_alloc ?_ _)); exact BK629.out)) : gb629 ≠ gb630)); have n6_ := Aside0.mk ((by rw [hg]; exact Nat.ne_of_gt (blk_lt (g := gb629) (o := .cells #[.int .i64 0, .int .i64 0, .slice none 0 0] 39 (0, 0)) (by (with_reducible repeat (first | refine blk_drewN ?_ _ | refine blk_drew ?_ | refine blk_alloc ?_ _)); exact BK629.out)) : gb630 ≠ gb629)); clear BK629; clear HB; have BK629 := n0_; have HB := n1_; have BK630 := n2_; have GW630 := n3_; have GE630 := n4_; have NB629_630 := n5_; have NB630_629 := n6_; clear n0_ n1_ n2_ n3_ n4_ n5_ n6_; clear hb hbox hg; have hnb4 := NB630_629.out; have hnc4 := NB629_630.out; have hcz5_0 : w3.cell? ⟨gb630, 0, none⟩ = some (.int .i64 0) := (blk_cell BK630.out 0).trans rfl; have hcz5_1 : w3.cell? ⟨gb630, 1, none⟩ = some (.int .i64 0) := (blk_cell BK630.out 1).trans rfl; have hcz5_2 : w3.cell? ⟨gb630, 2, none⟩ = some (.slice none 0 0) := (blk_cell BK630.out 2).trans rfl; have hfz5_0 := blk_frozen BK630.out 0; have hfz5_1 := blk_frozen BK630.out 1; have hfz5_2 := blk_frozen BK630.out 2))
  go_loopg [] k (fun kq w' => ∃ (x631002_1 : List (S72)) (u631002 : Value), Aside0 (spec_cbCounting.l0 kq a0 (wrap64 ((wrap64 (2 * a0)) + 1)) x631002_1 = some (r1, r2, r3)) ∧ Aside0 (kq ≤ k) ∧ Aside0 (Kd.R k72 72 w' w.heap.size (fun _ => True) u631002 x631002_1) ∧ Aside0 (w'.heap[gb629]? = some (.cells #[.int .i64 0, .int .i64 0, (.slice none 0 0)] 39 (0, 0))) ∧ Aside0 (w'.heap[gb630]? = some (.cells #[.int .i64 a0, .int .i64 (wrap64 ((wrap64 (2 * a0)) + 1)), u631002] 39 (0, 0))) ∧ Aside0 (Below w.heap.size w w'))
  case atStart => exact ⟨(([] : List (S72))), (.slice none 0 0), H', ⟨Nat.le_refl _⟩, ⟨by first | exact Kd.R_nil _ _ _ _ _ | exact Kd.N_nil _ _ _ _ _ | exact Kd.V_nil _ _ _ _ _ | exact Kd.Q_nil _ _ _ _ _ | exact Kd.S_nil _ _ _ _ _⟩, ⟨by (with_reducible repeat (first | refine blk_drewN ?_ _ | refine blk_drew ?_ | refine blk_alloc ?_ _)); refine blk_far ?_ NB629_630.out _; (with_reducible repeat (first | refine blk_drewN ?_ _ | refine blk_drew ?_ | refine blk_alloc ?_ _)); refine blk_far ?_ NB629_630.out _; (with_reducible repeat (first | refine blk_drewN ?_ _ | refine blk_drew ?_ | refine blk_alloc ?_ _)); refine blk_far ?_ NB629_630.out _; (with_reducible repeat (first | refine blk_drewN ?_ _ | refine blk_drew ?_ | refine blk_alloc ?_ _)); exact BK629.out⟩, ⟨by (with_reducible repeat (first | refine blk_drewN ?_ _ | refine blk_drew ?_ | refine blk_alloc ?_ _)); refine blk_put (cs := #[.int .i64 a0, .int .i64 (wrap64 ((wrap64 (2 * a0)) + 1)), .slice none 0 0]) ?_ 2 _ rfl; (with_reducible repeat (first | refine blk_drewN ?_ _ | refine blk_drew ?_ | refine blk_alloc ?_ _)); refine blk_put (cs := #[.int .i64 a0, .int .i64 0, .slice none 0 0]) ?_ 1 _ rfl; (with_reducible repeat (first | refine blk_drewN ?_ _ | refine blk_drew ?_ | refine blk_alloc ?_ _)); refine blk_put (cs := #[.int .i64 0, .int .i64 0, .slice none 0 0]) ?_ 0 _ rfl; (with_reducible repeat (first | refine blk_drewN ?_ _ | refine blk_drew ?_ | refine blk_alloc ?_ _)); exact BK630.out⟩, ⟨by repeat (first | (with_reducible first | exact HB.out | apply below_alloc | apply pw_below_drewN | apply below_drew1 | refine below_set ?_ GE629.out | refine below_set ?_ GE630.out) | exact HB.out)⟩⟩
  case round =>
    clear H'
    try clear p2
    try clear c4
    try clear c5
    try clear hcz5_0
    try clear hcz5_1
    try clear hcz5_2
    try clear hfz5_0
    try clear hfz5_1
    try clear hfz5_2
    obtain ⟨x631002_1, u631002, HA, HK1, HO_631002, BK629, BK630, HB⟩ := hrel
    cases gk with
    | zero => exact absurd HA.out (by simp [spec_cbCounting.l0])
    | succ k1 =>
      have H := HA.out
      clear HA
      simp only [spec_cbCounting.l0] at H
      by_cases c6 : (x631002_1.length : Int) < (wrap64 (a0 * (wrap64 ((wrap64 (2 * a0)) + 1))))
      · rw [if_pos c6] at H
        have c6b0 : decide ((x631002_1.length : Int) < (wrap64 (a0 * (wrap64 ((wrap64 (2 * a0)) + 1))))) = true := decide_eq_true c6
        clear c6
        by_cases c7 : x631002_1.length < 8796093022208
        · rw [if_pos c7] at H
          have LMc7 := Aside0.mk c7
          clear c7
          obtain ⟨y631, hy631⟩ : ∃ y_ : List (S72), y_ = (x631002_1 ++ [(⟨3, 0⟩ : S72)]) := ⟨_, rfl⟩
          replace H : (spec_cbCounting.l0 k1 a0 (wrap64 ((wrap64 (2 * a0)) + 1)) y631) = some (r1, r2, r3) := by first | (rw [hy631]; with_reducible exact H) | (have H2_ := (Option.bind_some _ _).symm.trans H; rw [hy631]; with_reducible exact H2_) | (have H2_ := (Option.bind_some _ _).symm.trans H; with_reducible exact H2_) | with_reducible exact H | (rw [hy631]; exact H) | exact H
          have Ny631 := Aside0.mk hy631
          clear hy631
          have H' := Aside0.mk H
          clear H
          have hnb8 := NB630_629.out
          have hnc8 := NB629_630.out
          have hcz9_0 : wr.cell? ⟨gb630, 0, none⟩ = some (.int .i64 a0) := (blk_cell BK630.out 0).trans rfl
          have hcz9_1 : wr.cell? ⟨gb630, 1, none⟩ = some (.int .i64 (wrap64 ((wrap64 (2 * a0)) + 1))) := (blk_cell BK630.out 1).trans rfl
          have hcz9_2 : wr.cell? ⟨gb630, 2, none⟩ = some (u631002) := (blk_cell BK630.out 2).trans rfl
          have hfz9_0 := blk_frozen BK630.out 0
          have hfz9_1 := blk_frozen BK630.out 1
          have hfz9_2 := blk_frozen BK630.out 2
          obtain ⟨Ao10, co10, eo10⟩ := Kd.R_slice HO_631002.out
          subst eo10
          go_wp2_with (first | ((with_reducible refine gate_builtin (b := .append) (xs := #[.tmp 19, .tmp 21]) rfl ?_); at_builtin; refine Kd.R_append k72 (w0 := w) w.heap.size rfl (.tmp 19) (.tmp 21) 37 72 (.agg #[(.int .i64 0), (.int .i64 0)]) 16 rfl Try.underlying37 info72 rfl (by decide) (by omega) (.slice Ao10 x631002_1.length co10) x631002_1 (⟨3, 0⟩ : S72) [.int .i64 3, .int .i64 0] (fun _ => True) (fun _ => False) rfl rfl ?aP (fun _ hk => hk.elim) ?aF ?aO ?aB ?aS ?aL ?_; (case aP => exact k72_mkM _ _ _ (⟨3, 0⟩ : S72)); (case aB => exact (by repeat (first | (with_reducible first | exact HB.out | apply below_alloc | apply pw_below_drewN | apply below_drew1 | refine below_set ?_ GE629.out | refine below_set ?_ GE630.out) | exact HB.out))); (case aF => exact (fun _ _ => trivial)); (case aO => exact (by (with_reducible repeat (first | apply Kd.R_alloc | apply Kd.R_drewN | apply Kd.R_drew)); exact HO_631002.out)); (case aS => exact (below_size (by repeat (first | (with_reducible first | exact HB.out | apply below_alloc | apply pw_below_drewN | apply below_drew1 | refine below_set ?_ GE629.out | refine below_set ?_ GE630.out) | exact HB.out)))); (case aL => have := LMc7.out; omega); intro v632 w11 ho hb hg hat; rw [← Ny631.out] at ho; have n0_ := Aside0.mk (blk_grown (g := gb629) (o := .cells #[.int .i64 0, .int .i64 0, .slice none 0 0] 39 (0, 0)) (by (with_reducible repeat (first | refine blk_drewN ?_ _ | refine blk_drew ?_ | refine blk_alloc ?_ _)); exact BK629.out) hg (Kd.R_ne HO_631002.out BK629.out (by decide))); have n1_ := Aside0.mk (blk_grown (g := gb630) (o := .cells #[.int .i64 a0, .int .i64 (wrap64 ((wrap64 (2 * a0)) + 1)), .slice Ao10 x631002_1.length co10] 39 (0, 0)) (by (with_reducible repeat (first | refine blk_drewN ?_ _ | refine blk_drew ?_ | refine blk_alloc ?_ _)); exact BK630.out) hg (Kd.R_ne HO_631002.out BK630.out (by decide))); have n2_ := Aside0.mk (hb); have n3_ := Aside0.mk (ho); clear BK629; clear BK630; clear HB; clear HO_631002; have BK629 := n0_; have BK630 := n1_; have HB := n2_; have HO633 := n3_; clear n0_ n1_ n2_ n3_; clear ho hb hg hat; obtain ⟨Ao12, co12, eo12⟩ := Kd.R_slice HO633.out; subst eo12; have hcz13_0 : w11.cell? ⟨gb630, 0, none⟩ = some (.int .i64 a0) := (blk_cell BK630.out 0).trans rfl; have hcz13_1 : w11.cell? ⟨gb630, 1, none⟩ = some (.int .i64 (wrap64 ((wrap64 (2 * a0)) + 1))) := (blk_cell BK630.out 1).trans rfl; have hcz13_2 : w11.cell? ⟨gb630, 2, none⟩ = some (.slice Ao10 x631002_1.length co10) := (blk_cell BK630.out 2).trans rfl; have hfz13_0 := blk_frozen BK630.out 0; have hfz13_1 := blk_frozen BK630.out 1; have hfz13_2 := blk_frozen BK630.out 2))
          go_roundg k1
          case measure => have := HK1.out; omega
          case rel => exact ⟨(y631), (.slice Ao12 y631.length co12), H', ⟨by have := HK1.out; omega⟩, ⟨by (with_reducible repeat (first | apply Kd.R_alloc | apply Kd.R_drewN | apply Kd.R_drew)); exact Kd.R_mono (Kd.R_far (p := ⟨gb630, 2, none⟩) (Kd.R_types HO633.out BK630.out (by decide)) (fun _ hk => hk.2) (.slice Ao12 y631.length co12)) (fun _ hk => trivial)⟩, ⟨by (with_reducible repeat (first | refine blk_drewN ?_ _ | refine blk_drew ?_ | refine blk_alloc ?_ _)); refine blk_far ?_ NB629_630.out _; (with_reducible repeat (first | refine blk_drewN ?_ _ | refine blk_drew ?_ | refine blk_alloc ?_ _)); exact BK629.out⟩, ⟨by (with_reducible repeat (first | refine blk_drewN ?_ _ | refine blk_drew ?_ | refine blk_alloc ?_ _)); refine blk_put (cs := #[.int .i64 a0, .int .i64 (wrap64 ((wrap64 (2 * a0)) + 1)), .slice Ao10 x631002_1.length co10]) ?_ 2 _ rfl; (with_reducible repeat (first | refine blk_drewN ?_ _ | refine blk_drew ?_ | refine blk_alloc ?_ _)); exact BK630.out⟩, ⟨by repeat (first | (with_reducible first | exact HB.out | apply below_alloc | apply pw_below_drewN | apply below_drew1 | refine below_set ?_ GE629.out | refine below_set ?_ GE630.out) | exact HB.out)⟩⟩
        · rw [if_neg c7] at H
          exact absurd H (by simp)
      · rw [if_neg c6] at H
        have c6b0 : decide ((x631002_1.length : Int) < (wrap64 (a0 * (wrap64 ((wrap64 (2 * a0)) + 1))))) = false := decide_eq_false c6
        clear c6
        simp only [Option.some.injEq, Prod.mk.injEq] at H
        obtain ⟨rfl, rfl, rfl⟩ := H
        have hnb14 := NB630_629.out
        have hnc14 := NB629_630.out
        have hcz15_0 : wr.cell? ⟨gb630, 0, none⟩ = some (.int .i64 a0) := (blk_cell BK630.out 0).trans rfl
        have hcz15_1 : wr.cell? ⟨gb630, 1, none⟩ = some (.int .i64 (wrap64 ((wrap64 (2 * a0)) + 1))) := (blk_cell BK630.out 1).trans rfl
        have hcz15_2 : wr.cell? ⟨gb630, 2, none⟩ = some (u631002) := (blk_cell BK630.out 2).trans rfl
        have hfz15_0 := blk_frozen BK630.out 0
        have hfz15_1 := blk_frozen BK630.out 1
        have hfz15_2 := blk_frozen BK630.out 2
        obtain ⟨Ao16, co16, eo16⟩ := Kd.R_slice HO_631002.out
        subst eo16
        have hcz17_0 : wr.cell? ⟨gb629, 0, none⟩ = some (.int .i64 0) := (blk_cell BK629.out 0).trans rfl
        have hcz17_1 : wr.cell? ⟨gb629, 1, none⟩ = some (.int .i64 0) := (blk_cell BK629.out 1).trans rfl
        have hcz17_2 : wr.cell? ⟨gb629, 2, none⟩ = some (.slice none 0 0) := (blk_cell BK629.out 2).trans rfl
        have hfz17_0 := blk_frozen BK629.out 0
        have hfz17_1 := blk_frozen BK629.out 1
        have hfz17_2 := blk_frozen BK629.out 2
        go_wp2
        refine bodyPost_ret (results_cell_row rfl _ _ gb629 39 #[.int .i64 a0, .int .i64 (wrap64 ((wrap64 (2 * a0)) + 1)), .slice Ao16 x631002_1.length co16] (0, 0) _ rfl (by (with_reducible repeat (first | refine blk_drewN ?_ _ | refine blk_drew ?_ | refine blk_alloc ?_ _)); refine blk_put (cs := #[.int .i64 a0, .int .i64 (wrap64 ((wrap64 (2 * a0)) + 1)), .slice none 0 0]) ?_ 2 _ rfl; (with_reducible repeat (first | refine blk_drewN ?_ _ | refine blk_drew ?_ | refine blk_alloc ?_ _)); refine blk_put (cs := #[.int .i64 a0, .int .i64 0, .slice none 0 0]) ?_ 1 _ rfl; (with_reducible repeat (first | refine blk_drewN ?_ _ | refine blk_drew ?_ | refine blk_alloc ?_ _)); refine blk_put (cs := #[.int .i64 0, .int .i64 0, .slice none 0 0]) ?_ 0 _ rfl; (with_reducible repeat (first | refine blk_drewN ?_ _ | refine blk_drew ?_ | refine blk_alloc ?_ _)); exact BK629.out) Try.underlying39 rfl (by kernel_rfl)) rfl ?_
        exact ⟨_, by first | rfl | (simp [errW_none, errW_some] <;> rfl) | (simp [*, errW_none, errW_some] <;> rfl), by (with_reducible repeat (first | apply Kd.R_alloc | apply Kd.R_drewN | apply Kd.R_drew)); exact Kd.R_mono (Kd.R_far (p := ⟨gb629, 2, none⟩) (Kd.R_far (p := ⟨gb629, 1, none⟩) (Kd.R_far (p := ⟨gb629, 0, none⟩) (Kd.R_types HO_631002.out BK629.out (by decide)) (fun _ hk => hk.2) (.int .i64 a0)) (fun _ hk => hk.2) (.int .i64 (wrap64 ((wrap64 (2 * a0)) + 1)))) (fun _ hk => hk.2) (.slice Ao16 x631002_1.length co16)) (fun _ hk => trivial), by repeat (first | (with_reducible first | exact HB.out | apply below_alloc | apply pw_below_drewN | apply below_drew1 | refine below_set ?_ GE629.out | refine below_set ?_ GE630.out) | exact HB.out)⟩

end Go.Proofs.Ytnccomklpfbcpaa.P
