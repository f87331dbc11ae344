/- FnExactTableOfBoard: texts of this claim in one: Px18, ABo, AGr, AGo. -/
import Derived.Test.YtcilbmbgdcepgaaZFnExactTableOfBoard0
section
-- PRINTED by print.py (a twelfth state) out of the translation. Not trusted: Lean checks it.
namespace Go.Proofs.Ytcilbmbgdcepgaa.P
open Go.RowKit Go.Proofs.YtcilbmbgdcepgaaW.PrintWords Go.Proofs.YtcilbmbgdcepgaaW.PrintLast Go.Proofs.YtcilbmbgdcepgaaW.PrintMore
attribute [local go_sem] max2_int min2_int max_two min_two max_three min_three max_four min_four   -- for this text's walks alone
set_option linter.unusedVariables false
set_option linter.unusedSimpArgs false

/-! ### impl_IsBoard: function 56 -/
def impl_IsBoard.f (k : Nat) (a0_0 : Int) (a0_1 : Int) (l0_2 : List (S71)) : Option (Bool) := if a0_0 ≥ 1 then (if a0_0 ≤ 10 then (if a0_1 ≥ 1 then (if a0_1 ≤ 9 then (if (l0_2.length : Int) = (wrap64 (a0_0 * a0_1)) then ((impl_validCells.f k l0_2).bind fun t167 => (some t167)) else (some false)) else (some false)) else (some false)) else (some false)) else (some false)
theorem impl_IsBoard.mono : ∀ a0 a1 a2 k, LeO (impl_IsBoard.f k a0 a1 a2) (impl_IsBoard.f (k + 1) a0 a1 a2) := by
  intro a0 a1 a2 k
  unfold impl_IsBoard.f
  repeat' first
      | (with_reducible exact impl_validCells.mono _ _)
      | (with_reducible exact LeO.refl _)
      | (with_reducible exact LeO.none _)
      | (with_reducible refine LeO.ite ?_ ?_)
      | (with_reducible refine LeO.bind ?_ (fun _ => ?_))
      | exact impl_validCells.mono _ _
      | exact LeO.none _
      | refine LeO.ite ?_ ?_
      | refine LeO.bind ?_ (fun _ => ?_)
set_option maxHeartbeats 8000000 in
set_option maxRecDepth 100000 in
theorem impl_IsBoard.calls (k : Nat) (a0_0 : Int) (a0_1 : Int) (A0_2 : Option Addr) (c0_2 : Nat) (l0_2 : List (S71)) (r : Bool) (w : World) (hr0_2 : Kd.C k71 w A0_2 l0_2.length l0_2) (hc0_2 : l0_2.length ≤ c0_2) (h : impl_IsBoard.f k a0_0 a0_1 l0_2 = some r) :
    Calls Try.prog 56 #[.agg #[.int .i64 a0_0, .int .i64 a0_1, .slice A0_2 l0_2.length c0_2]] w fun e w' => e = .returned (.bool r) ∧ Below w.heap.size w w' := by
  have hu24 := Try.underlying24
  have HR0_2 := Aside0.mk hr0_2
  have HC0_2 := Aside0.mk hc0_2
  clear hr0_2 hc0_2
  have HB := Aside0.mk (Below.refl w.heap.size w)
  have H : (if a0_0 ≥ 1 then (if a0_0 ≤ 10 then (if a0_1 ≥ 1 then (if a0_1 ≤ 9 then (if (l0_2.length : Int) = (wrap64 (a0_0 * a0_1)) then ((impl_validCells.f k l0_2).bind fun t167 => (some t167)) else (some false)) else (some false)) else (some false)) else (some false)) else (some false)) = some r := h
  clear h
  by_cases c2 : a0_0 ≥ 1
  · rw [if_pos c2] at H
    have c2b0 : decide (1 ≤ a0_0) = true := decide_eq_true c2
    clear c2
    by_cases c3 : a0_0 ≤ 10
    · rw [if_pos c3] at H
      have c3b0 : decide (a0_0 ≤ 10) = true := decide_eq_true c3
      clear c3
      by_cases c4 : a0_1 ≥ 1
      · rw [if_pos c4] at H
        have c4b0 : decide (1 ≤ a0_1) = true := decide_eq_true c4
        clear c4
        by_cases c5 : a0_1 ≤ 9
        · rw [if_pos c5] at H
          have c5b0 : decide (a0_1 ≤ 9) = true := decide_eq_true c5
          clear c5
          by_cases c6 : (l0_2.length : Int) = (wrap64 (a0_0 * a0_1))
          · rw [if_pos c6] at H
            have c6b0 : ((l0_2.length : Int) == (wrap64 (a0_0 * a0_1))) = true := beq_iff_eq.mpr c6
            have c6b1 : ((l0_2.length : Int) != (wrap64 (a0_0 * a0_1))) = false := bne_eq_false_iff_eq.mpr c6
            clear c6
            replace H := Option.bind_eq_some_iff.mp H
            obtain ⟨t167, A70, H⟩ := H
            replace H : (some t167) = some r := H
            have A7 := Aside0.mk A70
            clear A70
            obtain rfl := Option.some.inj H
            go_enter Try.func56, Try.ntmps56
            go_wp2_with (first | ((with_reducible refine gate_dst (N := 1) rfl ?_); (try (refine gate_guard (by rfl) ?_; dsimp only)); refine box_event ?hg (N := 1) ?hd (cs := #[.int .i64 a0_0, .int .i64 a0_1, .slice A0_2 l0_2.length c0_2]) (t := 24) ?hr ?_; (case hd => rfl); (case hg => rfl); (case hr => first | (go_simp; done) | (go_simp; rfl)); intro gb166 hg w8 hbox hb; have n0_ := Aside0.mk (below_step (by repeat (first | (with_reducible first | exact HB.out | apply below_alloc | apply pw_below_drewN | apply below_drew1) | exact HB.out)) hb); have n1_ := Aside0.mk (hbox); have n2_ := Aside0.mk ((by rw [hg]; exact (below_size (by repeat (first | (with_reducible first | exact HB.out | apply below_alloc | apply pw_below_drewN | apply below_drew1) | exact HB.out))) : w.heap.size ≤ gb166)); have n3_ := Aside0.mk ((by rw [hg]; exact (below_size (by repeat (first | (with_reducible first | exact HB.out | apply below_alloc | apply pw_below_drewN | apply below_drew1) | exact HB.out))) : w.heap.size ≤ gb166)); clear HB; have HB := n0_; have BK166 := n1_; have GW166 := n2_; have GE166 := n3_; clear n0_ n1_ n2_ n3_; clear hb hbox hg; have hcz9_0 : w8.cell? ⟨gb166, 0, none⟩ = some (.int .i64 a0_0) := (blk_cell BK166.out 0).trans rfl; have hcz9_1 : w8.cell? ⟨gb166, 1, none⟩ = some (.int .i64 a0_1) := (blk_cell BK166.out 1).trans rfl; have hcz9_2 : w8.cell? ⟨gb166, 2, none⟩ = some (.slice A0_2 l0_2.length c0_2) := (blk_cell BK166.out 2).trans rfl; have hfz9_0 := blk_frozen BK166.out 0; have hfz9_1 := blk_frozen BK166.out 1; have hfz9_2 := blk_frozen BK166.out 2) | (go_at_call 85; (with_reducible refine (impl_validCells.calls k _ _ l0_2 t167 _ ?side1 ?side2 A7.out).mono ?_); (case side1 => repeat (first | exact (Kd.C_below HR0_2.out HB.out) | (with_reducible refine Kd.C_alloc ?_ _) | (with_reducible refine Kd.C_drewN ?_ _) | (with_reducible refine Kd.C_drew ?_))); (case side2 => exact HC0_2.out); rintro e w10 ⟨rfl, hb⟩; have n0_ := Aside0.mk (blk_below (g := gb166) (o := .cells #[.int .i64 a0_0, .int .i64 a0_1, .slice A0_2 l0_2.length c0_2] 24 (0, 0)) (by (with_reducible repeat (first | refine blk_drewN ?_ _ | refine blk_drew ?_ | refine blk_alloc ?_ _)); exact BK166.out) hb); have n1_ := Aside0.mk (below_step (by repeat (first | (with_reducible first | exact HB.out | apply below_alloc | apply pw_below_drewN | apply below_drew1 | refine below_set ?_ GE166.out) | exact HB.out)) hb); clear BK166; clear HB; have BK166 := n0_; have HB := n1_; clear n0_ n1_; (try clear hb); (try clear hb2); (try clear hk); (try clear hi)))
            go_ret
            exact ⟨by first | rfl | (simp [errW_none, errW_some] <;> rfl) | (simp [*, errW_none, errW_some] <;> rfl), by repeat (first | (with_reducible first | exact HB.out | apply below_alloc | apply pw_below_drewN | apply below_drew1 | refine below_set ?_ GE166.out) | exact HB.out)⟩
          · rw [if_neg c6] at H
            have c6b0 : ((l0_2.length : Int) == (wrap64 (a0_0 * a0_1))) = false := beq_eq_false_iff_ne.mpr c6
            have c6b1 : ((l0_2.length : Int) != (wrap64 (a0_0 * a0_1))) = true := bne_iff_ne.mpr c6
            obtain rfl := Option.some.inj H
            go_enter Try.func56, Try.ntmps56
            go_wp2_with (first | ((with_reducible refine gate_dst (N := 1) rfl ?_); (try (refine gate_guard (by rfl) ?_; dsimp only)); refine box_event ?hg (N := 1) ?hd (cs := #[.int .i64 a0_0, .int .i64 a0_1, .slice A0_2 l0_2.length c0_2]) (t := 24) ?hr ?_; (case hd => rfl); (case hg => rfl); (case hr => first | (go_simp; done) | (go_simp; rfl)); intro gb166 hg w11 hbox hb; have n0_ := Aside0.mk (below_step (by repeat (first | (with_reducible first | exact HB.out | apply below_alloc | apply pw_below_drewN | apply below_drew1) | exact HB.out)) hb); have n1_ := Aside0.mk (hbox); have n2_ := Aside0.mk ((by rw [hg]; exact (below_size (by repeat (first | (with_reducible first | exact HB.out | apply below_alloc | apply pw_below_drewN | apply below_drew1) | exact HB.out))) : w.heap.size ≤ gb166)); have n3_ := Aside0.mk ((by rw [hg]; exact (below_size (by repeat (first | (with_reducible first | exact HB.out | apply below_alloc | apply pw_below_drewN | apply below_drew1) | exact HB.out))) : w.heap.size ≤ gb166)); clear HB; have HB := n0_; have BK166 := n1_; have GW166 := n2_; have GE166 := n3_; clear n0_ n1_ n2_ n3_; clear hb hbox hg; have hcz12_0 : w11.cell? ⟨gb166, 0, none⟩ = some (.int .i64 a0_0) := (blk_cell BK166.out 0).trans rfl; have hcz12_1 : w11.cell? ⟨gb166, 1, none⟩ = some (.int .i64 a0_1) := (blk_cell BK166.out 1).trans rfl; have hcz12_2 : w11.cell? ⟨gb166, 2, none⟩ = some (.slice A0_2 l0_2.length c0_2) := (blk_cell BK166.out 2).trans rfl; have hfz12_0 := blk_frozen BK166.out 0; have hfz12_1 := blk_frozen BK166.out 1; have hfz12_2 := blk_frozen BK166.out 2))
            go_ret
            exact ⟨by first | rfl | (simp [errW_none, errW_some] <;> rfl) | (simp [*, errW_none, errW_some] <;> rfl), by repeat (first | (with_reducible first | exact HB.out | apply below_alloc | apply pw_below_drewN | apply below_drew1 | refine below_set ?_ GE166.out) | exact HB.out)⟩
        · rw [if_neg c5] at H
          have c5b0 : decide (a0_1 ≤ 9) = false := decide_eq_false c5
          clear c5
          obtain rfl := Option.some.inj H
          go_enter Try.func56, Try.ntmps56
          go_wp2_with (first | ((with_reducible refine gate_dst (N := 1) rfl ?_); (try (refine gate_guard (by rfl) ?_; dsimp only)); refine box_event ?hg (N := 1) ?hd (cs := #[.int .i64 a0_0, .int .i64 a0_1, .slice A0_2 l0_2.length c0_2]) (t := 24) ?hr ?_; (case hd => rfl); (case hg => rfl); (case hr => first | (go_simp; done) | (go_simp; rfl)); intro gb166 hg w13 hbox hb; have n0_ := Aside0.mk (below_step (by repeat (first | (with_reducible first | exact HB.out | apply below_alloc | apply pw_below_drewN | apply below_drew1) | exact HB.out)) hb); have n1_ := Aside0.mk (hbox); have n2_ := Aside0.mk ((by rw [hg]; exact (below_size (by repeat (first | (with_reducible first | exact HB.out | apply below_alloc | apply pw_below_drewN | apply below_drew1) | exact HB.out))) : w.heap.size ≤ gb166)); have n3_ := Aside0.mk ((by rw [hg]; exact (below_size (by repeat (first | (with_reducible first | exact HB.out | apply below_alloc | apply pw_below_drewN | apply below_drew1) | exact HB.out))) : w.heap.size ≤ gb166)); clear HB; have HB := n0_; have BK166 := n1_; have GW166 := n2_; have GE166 := n3_; clear n0_ n1_ n2_ n3_; clear hb hbox hg; have hcz14_0 : w13.cell? ⟨gb166, 0, none⟩ = some (.int .i64 a0_0) := (blk_cell BK166.out 0).trans rfl; have hcz14_1 : w13.cell? ⟨gb166, 1, none⟩ = some (.int .i64 a0_1) := (blk_cell BK166.out 1).trans rfl; have hcz14_2 : w13.cell? ⟨gb166, 2, none⟩ = some (.slice A0_2 l0_2.length c0_2) := (blk_cell BK166.out 2).trans rfl; have hfz14_0 := blk_frozen BK166.out 0; have hfz14_1 := blk_frozen BK166.out 1; have hfz14_2 := blk_frozen BK166.out 2))
          go_ret
          exact ⟨by first | rfl | (simp [errW_none, errW_some] <;> rfl) | (simp [*, errW_none, errW_some] <;> rfl), by repeat (first | (with_reducible first | exact HB.out | apply below_alloc | apply pw_below_drewN | apply below_drew1 | refine below_set ?_ GE166.out) | exact HB.out)⟩
      · rw [if_neg c4] at H
        have c4b0 : decide (1 ≤ a0_1) = false := decide_eq_false c4
        clear c4
        obtain rfl := Option.some.inj H
        go_enter Try.func56, Try.ntmps56
        go_wp2_with (first | ((with_reducible refine gate_dst (N := 1) rfl ?_); (try (refine gate_guard (by rfl) ?_; dsimp only)); refine box_event ?hg (N := 1) ?hd (cs := #[.int .i64 a0_0, .int .i64 a0_1, .slice A0_2 l0_2.length c0_2]) (t := 24) ?hr ?_; (case hd => rfl); (case hg => rfl); (case hr => first | (go_simp; done) | (go_simp; rfl)); intro gb166 hg w15 hbox hb; have n0_ := Aside0.mk (below_step (by repeat (first | (with_reducible first | exact HB.out | apply below_alloc | apply pw_below_drewN | apply below_drew1) | exact HB.out)) hb); have n1_ := Aside0.mk (hbox); have n2_ := Aside0.mk ((by rw [hg]; exact (below_size (by repeat (first | (with_reducible first | exact HB.out | apply below_alloc | apply pw_below_drewN | apply below_drew1) | exact HB.out))) : w.heap.size ≤ gb166)); have n3_ := Aside0.mk ((by rw [hg]; exact (below_size (by repeat (first | (with_reducible first | exact HB.out | apply below_alloc | apply pw_below_drewN | apply below_drew1) | exact HB.out))) : w.heap.size ≤ gb166)); clear HB; have HB := n0_; have BK166 := n1_; have GW166 := n2_; have GE166 := n3_; clear n0_ n1_ n2_ n3_; clear hb hbox hg; have hcz16_0 : w15.cell? ⟨gb166, 0, none⟩ = some (.int .i64 a0_0) := (blk_cell BK166.out 0).trans rfl; have hcz16_1 : w15.cell? ⟨gb166, 1, none⟩ = some (.int .i64 a0_1) := (blk_cell BK166.out 1).trans rfl; have hcz16_2 : w15.cell? ⟨gb166, 2, none⟩ = some (.slice A0_2 l0_2.length c0_2) := (blk_cell BK166.out 2).trans rfl; have hfz16_0 := blk_frozen BK166.out 0; have hfz16_1 := blk_frozen BK166.out 1; have hfz16_2 := blk_frozen BK166.out 2))
        go_ret
        exact ⟨by first | rfl | (simp [errW_none, errW_some] <;> rfl) | (simp [*, errW_none, errW_some] <;> rfl), by repeat (first | (with_reducible first | exact HB.out | apply below_alloc | apply pw_below_drewN | apply below_drew1 | refine below_set ?_ GE166.out) | exact HB.out)⟩
    · rw [if_neg c3] at H
      have c3b0 : decide (a0_0 ≤ 10) = false := decide_eq_false c3
      clear c3
      obtain rfl := Option.some.inj H
      go_enter Try.func56, Try.ntmps56
      go_wp2_with (first | ((with_reducible refine gate_dst (N := 1) rfl ?_); (try (refine gate_guard (by rfl) ?_; dsimp only)); refine box_event ?hg (N := 1) ?hd (cs := #[.int .i64 a0_0, .int .i64 a0_1, .slice A0_2 l0_2.length c0_2]) (t := 24) ?hr ?_; (case hd => rfl); (case hg => rfl); (case hr => first | (go_simp; done) | (go_simp; rfl)); intro gb166 hg w17 hbox hb; have n0_ := Aside0.mk (below_step (by repeat (first | (with_reducible first | exact HB.out | apply below_alloc | apply pw_below_drewN | apply below_drew1) | exact HB.out)) hb); have n1_ := Aside0.mk (hbox); have n2_ := Aside0.mk ((by rw [hg]; exact (below_size (by repeat (first | (with_reducible first | exact HB.out | apply below_alloc | apply pw_below_drewN | apply below_drew1) | exact HB.out))) : w.heap.size ≤ gb166)); have n3_ := Aside0.mk ((by rw [hg]; exact (below_size (by repeat (first | (with_reducible first | exact HB.out | apply below_alloc | apply pw_below_drewN | apply below_drew1) | exact HB.out))) : w.heap.size ≤ gb166)); clear HB; have HB := n0_; have BK166 := n1_; have GW166 := n2_; have GE166 := n3_; clear n0_ n1_ n2_ n3_; clear hb hbox hg; have hcz18_0 : w17.cell? ⟨gb166, 0, none⟩ = some (.int .i64 a0_0) := (blk_cell BK166.out 0).trans rfl; have hcz18_1 : w17.cell? ⟨gb166, 1, none⟩ = some (.int .i64 a0_1) := (blk_cell BK166.out 1).trans rfl; have hcz18_2 : w17.cell? ⟨gb166, 2, none⟩ = some (.slice A0_2 l0_2.length c0_2) := (blk_cell BK166.out 2).trans rfl; have hfz18_0 := blk_frozen BK166.out 0; have hfz18_1 := blk_frozen BK166.out 1; have hfz18_2 := blk_frozen BK166.out 2))
      go_ret
      exact ⟨by first | rfl | (simp [errW_none, errW_some] <;> rfl) | (simp [*, errW_none, errW_some] <;> rfl), by repeat (first | (with_reducible first | exact HB.out | apply below_alloc | apply pw_below_drewN | apply below_drew1 | refine below_set ?_ GE166.out) | exact HB.out)⟩
  · rw [if_neg c2] at H
    have c2b0 : decide (1 ≤ a0_0) = false := decide_eq_false c2
    clear c2
    obtain rfl := Option.some.inj H
    go_enter Try.func56, Try.ntmps56
    go_wp2_with (first | ((with_reducible refine gate_dst (N := 1) rfl ?_); (try (refine gate_guard (by rfl) ?_; dsimp only)); refine box_event ?hg (N := 1) ?hd (cs := #[.int .i64 a0_0, .int .i64 a0_1, .slice A0_2 l0_2.length c0_2]) (t := 24) ?hr ?_; (case hd => rfl); (case hg => rfl); (case hr => first | (go_simp; done) | (go_simp; rfl)); intro gb166 hg w19 hbox hb; have n0_ := Aside0.mk (below_step (by repeat (first | (with_reducible first | exact HB.out | apply below_alloc | apply pw_below_drewN | apply below_drew1) | exact HB.out)) hb); have n1_ := Aside0.mk (hbox); have n2_ := Aside0.mk ((by rw [hg]; exact (below_size (by repeat (first | (with_reducible first | exact HB.out | apply below_alloc | apply pw_below_drewN | apply below_drew1) | exact HB.out))) : w.heap.size ≤ gb166)); have n3_ := Aside0.mk ((by rw [hg]; exact (below_size (by repeat (first | (with_reducible first | exact HB.out | apply below_alloc | apply pw_below_drewN | apply below_drew1) | exact HB.out))) : w.heap.size ≤ gb166)); clear HB; have HB := n0_; have BK166 := n1_; have GW166 := n2_; have GE166 := n3_; clear n0_ n1_ n2_ n3_; clear hb hbox hg; have hcz20_0 : w19.cell? ⟨gb166, 0, none⟩ = some (.int .i64 a0_0) := (blk_cell BK166.out 0).trans rfl; have hcz20_1 : w19.cell? ⟨gb166, 1, none⟩ = some (.int .i64 a0_1) := (blk_cell BK166.out 1).trans rfl; have hcz20_2 : w19.cell? ⟨gb166, 2, none⟩ = some (.slice A0_2 l0_2.length c0_2) := (blk_cell BK166.out 2).trans rfl; have hfz20_0 := blk_frozen BK166.out 0; have hfz20_1 := blk_frozen BK166.out 1; have hfz20_2 := blk_frozen BK166.out 2))
    go_ret
    exact ⟨by first | rfl | (simp [errW_none, errW_some] <;> rfl) | (simp [*, errW_none, errW_some] <;> rfl), by repeat (first | (with_reducible first | exact HB.out | apply below_alloc | apply pw_below_drewN | apply below_drew1 | refine below_set ?_ GE166.out) | exact HB.out)⟩

end Go.Proofs.Ytcilbmbgdcepgaa.P
end

section
/- What the printed functions on cells and boards come to: copies, comparison, marks, and the tests whether a board is valid. -/
namespace Go.Proofs.Ytcilbmbgdcepgaa.A
open Go.RowKit YtcilbmbgdcepgaaW.PrintWords YtcilbmbgdcepgaaW.PrintLast YtcilbmbgdcepgaaW.PrintMore P T
set_option linter.unusedVariables false
set_option linter.unusedSimpArgs false

theorem rdc_mid (pre : List S71) (y : S71) (suf : List S71) : rd_T71 (pre ++ y :: suf) (pre.length : Int) = y := by simp [rd_T71]
/-- The copy of one cell. -/
def cpC (x : S96) : S71 := ⟨x.f0, x.f1⟩
theorem toCells_loop (l : List S96) : ∀ (suf pre : List S96) (qre qsuf : List S71), l = pre ++ suf → l.length ≤ maxLen → qre.length = pre.length → qsuf.length = suf.length →
  Ev (fun k => laws_toCellS.l0 k l (qre ++ qsuf) (pre.length : Int)) (qre ++ suf.map cpC) := by
 intro suf
 induction suf with
 | nil =>
  intro pre qre qsuf hl hm h1 h2
  subst hl
  obtain rfl : qsuf = [] := List.length_eq_zero_iff.1 h2
  refine Ev.step (fun k => laws_toCellS.l0.eq_2 ..) ?_
  refine ev_neg (not_lt_end _) (ev_const (by simp))
 | cons y suf ih =>
  intro pre qre qsuf hl hm h1 h2
  subst hl
  obtain ⟨z, qsuf, rfl⟩ : ∃ z t, qsuf = z :: t := by cases qsuf with | nil => simp at h2 | cons z t => exact ⟨z, t, rfl⟩
  refine Ev.step (fun k => laws_toCellS.l0.eq_2 ..) ?_
  refine ev_pos (lt_mid _ _ _) (ev_pos (by omega) ?_)
  simp only [laws_toCell.f, Option.bind_some, rd_T96, getD_mid]
  refine ev_pos (by rw [← h1]; exact lt_mid _ _ _) ?_
  rw [next_mid _ _ _ hm, ← h1, set_mid]
  have := ih (pre ++ [y]) (qre ++ [cpC y]) qsuf (assoc_mid _ _ _) hm (by simp [h1]) (by simpa using h2)
  simpa [cpC] using this
theorem toCells (l : List S96) (h : l.length ≤ 1048576) : Ev (fun k => laws_toCellS.f k l) (l.map cpC) := by
 have := toCells_loop l l [] [] (List.replicate l.length z71) rfl (by simp only [maxLen]; omega) rfl (by simp)
 unfold laws_toCellS.f
 refine ev_pos (by omega) (ev_pos (by simp; omega) ?_)
 simpa using this
theorem toBo (a b : Int) (l : List S96) (h : l.length ≤ 1048576) : Ev (fun k => laws_toBoard.f k a b l) (a, b, l.map cpC) := by
 unfold laws_toBoard.f
 exact ev_bind (toCells l h) (ev_const rfl)
theorem szBo (r c : Int) (l : List S96) (a : Int) (ha : 0 ≤ a ∧ a ≤ 1048576) (h : l.length ≤ maxLen) : laws_szBoard.f r c l a = some (if a - (l.length : Int) < 0 then -1 else a - (l.length : Int)) := by
 unfold laws_szBoard.f laws_szCellS.f
 simp only [maxLen] at h
 rw [wrap_id (x := a - (l.length : Int)) (by omega) (by omega)]
 by_cases h1 : a - (l.length : Int) < 0
 ·rw [if_pos h1, Option.bind_some, if_pos (by omega), if_pos h1]
 ·rw [if_neg h1, Option.bind_some, if_neg h1, if_neg h1]
theorem eqCells_loop (l : List S71) : ∀ (suf pre : List S71), l = pre ++ suf → l.length ≤ maxLen → Ev (fun k => laws_eqCellS.l0 k l l (pre.length : Int)) true := by
 intro suf
 induction suf with
 | nil =>
  intro pre hl hm
  subst hl
  refine Ev.step (fun k => laws_eqCellS.l0.eq_2 ..) ?_
  refine ev_neg (not_lt_end _) (ev_const rfl)
 | cons y suf ih =>
  intro pre hl hm
  subst hl
  refine Ev.step (fun k => laws_eqCellS.l0.eq_2 ..) ?_
  refine ev_pos (lt_mid _ _ _) (ev_pos (by omega) (ev_pos (lt_mid _ _ _) ?_))
  simp only [laws_eqCell.f, if_true, Option.bind_some]
  rw [next_mid _ _ _ hm]
  exact ih (pre ++ [y]) (assoc_mid _ _ _) hm
theorem eqCells (l : List S71) (h : l.length ≤ maxLen) : Ev (fun k => laws_eqCellS.f k l l) true := by
 unfold laws_eqCellS.f
 exact ev_pos rfl (eqCells_loop l l [] rfl h)
theorem eqBo (a b : Int) (l : List S71) (h : l.length ≤ maxLen) : Ev (fun k => laws_eqBoard.f k a b l a b l) true := by
 unfold laws_eqBoard.f
 exact ev_pos rfl (ev_pos rfl (ev_bind (eqCells l h) (ev_const rfl)))
def CellOk (a b : Int) : Prop := (0 ≤ a ∧ a ≤ 7) ∧ (b = 0 ∨ b = 1 ∧ (a = 3 ∨ a = 6))
instance (a b : Int) : Decidable (CellOk a b) := by unfold CellOk; infer_instance
def BoOk (r c : Int) (l : List S71) : Prop := (1 ≤ r ∧ r ≤ 10) ∧ (1 ≤ c ∧ c ≤ 9) ∧ (l.length : Int) = r * c ∧ ∀ x ∈ l, CellOk x.f0 x.f1
instance (r c : Int) (l : List S71) : Decidable (BoOk r c l) := by unfold BoOk; infer_instance
theorem mul_small {r c : Int} (h1 : 1 ≤ r ∧ r ≤ 10) (h2 : 1 ≤ c ∧ c ≤ 9) : 1 ≤ r * c ∧ r * c ≤ 90 := by
 have h : r = 1 ∨ r = 2 ∨ r = 3 ∨ r = 4 ∨ r = 5 ∨ r = 6 ∨ r = 7 ∨ r = 8 ∨ r = 9 ∨ r = 10 := by omega
 rcases h with rfl | rfl | rfl | rfl | rfl | rfl | rfl | rfl | rfl | rfl <;> omega
theorem BoOk.len {r c : Int} {l : List S71} (h : BoOk r c l) : l.length ≤ 90 := by
 have := mul_small h.1 h.2.1
 have := h.2.2.1
 omega
theorem paTurning (a b : Int) : spec_paTurning.f a b = some (decide (a = 3 ∨ a = 6)) := by
 unfold spec_paTurning.f
 by_cases h : a = 3
 ·rw [if_pos h]; simp [h]
 ·rw [if_neg h]; simp [h, Bool.beq_eq_decide_eq]
theorem paGood (a b : Int) : spec_paGood.f a b = some (decide (CellOk a b)) := by
 unfold spec_paGood.f
 rw [in_f, Option.bind_some, paTurning]
 by_cases h : 0 ≤ a ∧ a ≤ 7
 ·rw [if_pos (by simpa using h)]
  by_cases h1 : b = 0
  ·rw [if_pos h1]; rw [decide_eq_true (show CellOk a b from ⟨h, .inl h1⟩)]
  ·rw [if_neg h1]
   by_cases h2 : b = 1
   ·rw [if_pos h2, Option.bind_some, Option.some.injEq, decide_eq_decide]
    exact ⟨fun h3 => ⟨h, .inr ⟨h2, h3⟩⟩, fun h3 => (h3.2.resolve_left h1).2⟩
   ·rw [if_neg h2, decide_eq_false (fun h3 : CellOk a b => h2 (h3.2.resolve_left h1).1)]
 ·rw [if_neg (by simpa using h), decide_eq_false (fun h3 : CellOk a b => h h3.1)]
theorem isCell (a b : Int) : impl_IsCell.f a b = some (decide (CellOk a b)) := by
 unfold impl_IsCell.f
 by_cases h : 0 ≤ a ∧ a ≤ 7
 ·rw [if_neg (by omega), if_neg (by omega)]
  by_cases h1 : b < 0
  ·rw [if_pos h1, decide_eq_false (fun h3 : CellOk a b => by have := h3.2; omega)]
  rw [if_neg h1]
  by_cases h2 : b > 1
  ·rw [if_pos h2, decide_eq_false (fun h3 : CellOk a b => by have := h3.2; omega)]
  rw [if_neg h2]
  by_cases h3 : b = 0
  ·rw [if_pos h3, decide_eq_true (show CellOk a b from ⟨h, .inl h3⟩)]
  rw [if_neg h3]
  have h4 : b = 1 := by omega
  by_cases h5 : a = 3
  ·rw [if_pos h5, decide_eq_true (show CellOk a b from ⟨h, .inr ⟨h4, .inl h5⟩⟩)]
  ·rw [if_neg h5, Bool.beq_eq_decide_eq, Option.some.injEq, decide_eq_decide]
   exact ⟨fun h6 => ⟨h, .inr ⟨h4, .inr h6⟩⟩, fun h6 => (h6.2.resolve_left h3).2.resolve_left h5⟩
 ·rw [decide_eq_false (fun h3 : CellOk a b => h h3.1)]
  by_cases h1 : a < 0
  ·rw [if_pos h1]
  ·rw [if_neg h1, if_pos (by omega)]
theorem boGood_loop (l : List S71) (hm : l.length ≤ maxLen) : ∀ (suf pre : List S71), l = pre ++ suf →
  Ev (fun k => spec_boGood.l0 k l (l.length : Int) (pre.length : Int)) (decide (∀ x ∈ suf, CellOk x.f0 x.f1)) := by
 intro suf
 induction suf with
 | nil =>
  intro pre hl
  subst hl
  exact Ev.step (fun k => spec_boGood.l0.eq_2 ..) (ev_neg (not_lt_end _) (ev_const (by simp)))
 | cons y suf ih =>
  intro pre hl
  subst hl
  refine Ev.step (fun k => spec_boGood.l0.eq_2 ..) (ev_pos (lt_mid _ _ _) (ev_pos (by omega) (ev_pos (lt_mid _ _ _) ?_)))
  simp only [rdc_mid, paGood, Option.bind_some, decide_eq_true_eq]
  by_cases h : CellOk y.f0 y.f1
  ·refine ev_pos h ?_
   rw [next_mid _ _ _ hm]
   rw [show decide (∀ x ∈ y :: suf, CellOk x.f0 x.f1) = decide (∀ x ∈ suf, CellOk x.f0 x.f1) by rw [decide_eq_decide]; simp [h]]
   exact ih (pre ++ [y]) (assoc_mid _ _ _)
  ·refine ev_neg h (ev_const ?_)
   rw [show decide (∀ x ∈ y :: suf, CellOk x.f0 x.f1) = false from decide_eq_false (fun hh => h (hh y List.mem_cons_self))]
theorem boGood (r c : Int) (l : List S71) (hm : l.length ≤ maxLen) : Ev (fun k => spec_boGood.f k r c l) (decide (BoOk r c l)) := by
 unfold spec_boGood.f
 have no : ∀ b, b = true → ¬ BoOk r c l → Ev (fun k => spec_boGood.j0 k b r c l) (decide (BoOk r c l)) := by
  intro b hb h
  rw [decide_eq_false h]
  exact Ev.step (fun k => spec_boGood.j0.eq_2 ..) (ev_pos hb (ev_const rfl))
 simp only [in_f, Option.bind_some, decide_eq_true_eq]
 by_cases h1 : 1 ≤ r ∧ r ≤ 10
 ·refine ev_pos h1 ?_
  by_cases h2 : 1 ≤ c ∧ c ≤ 9
  ·have h3 := mul_small h1 h2
   refine ev_pos h2 ?_
   rw [wrap_id (by omega) (by omega)]
   by_cases h4 : (l.length : Int) = r * c
   ·rw [show ((l.length : Int) != r * c) = false by simpa using h4]
    refine Ev.step (fun k => spec_boGood.j0.eq_2 ..) (ev_neg (by simp) ?_)
    rw [show decide (BoOk r c l) = decide (∀ x ∈ l, CellOk x.f0 x.f1) from decide_eq_decide.2 ⟨fun h => h.2.2.2, fun h => ⟨h1, h2, h4, h⟩⟩]
    exact boGood_loop l hm l [] rfl
   ·exact no _ (by simpa using h4) (fun h => h4 h.2.2.1)
  ·exact ev_neg h2 (no _ rfl (fun h => h2 h.2.1))
 ·exact ev_neg h1 (no _ rfl (fun h => h1 h.1))
theorem validCells_loop (l : List S71) (hm : l.length ≤ maxLen) : ∀ (suf pre : List S71), l = pre ++ suf →
  Ev (fun k => impl_validCells.l0 k l (l.length : Int) (pre.length : Int)) (decide (∀ x ∈ suf, CellOk x.f0 x.f1)) := by
 intro suf
 induction suf with
 | nil =>
  intro pre hl
  subst hl
  exact Ev.step (fun k => impl_validCells.l0.eq_2 ..) (ev_neg (not_lt_end _) (ev_const (by simp)))
 | cons y suf ih =>
  intro pre hl
  subst hl
  refine Ev.step (fun k => impl_validCells.l0.eq_2 ..) (ev_pos (lt_mid _ _ _) (ev_pos (by omega) (ev_pos (lt_mid _ _ _) ?_)))
  simp only [rdc_mid, isCell, Option.bind_some, decide_eq_true_eq]
  by_cases h : CellOk y.f0 y.f1
  ·refine ev_pos h ?_
   rw [next_mid _ _ _ hm]
   rw [show decide (∀ x ∈ y :: suf, CellOk x.f0 x.f1) = decide (∀ x ∈ suf, CellOk x.f0 x.f1) by rw [decide_eq_decide]; simp [h]]
   exact ih (pre ++ [y]) (assoc_mid _ _ _)
  ·refine ev_neg h (ev_const ?_)
   rw [show decide (∀ x ∈ y :: suf, CellOk x.f0 x.f1) = false from decide_eq_false (fun hh => h (hh y List.mem_cons_self))]
theorem isBoard (r c : Int) (l : List S71) (hm : l.length ≤ maxLen) : Ev (fun k => impl_IsBoard.f k r c l) (decide (BoOk r c l)) := by
 unfold impl_IsBoard.f
 have no : ¬ BoOk r c l → Ev (fun _ : Nat => some false) (decide (BoOk r c l)) := by
  intro h; rw [decide_eq_false h]; exact ev_const rfl
 by_cases h1 : 1 ≤ r
 ·refine ev_pos h1 ?_
  by_cases h2 : r ≤ 10
  ·refine ev_pos h2 ?_
   by_cases h3 : 1 ≤ c
   ·refine ev_pos h3 ?_
    by_cases h4 : c ≤ 9
    ·refine ev_pos h4 ?_
     have h5 := mul_small ⟨h1, h2⟩ ⟨h3, h4⟩
     rw [wrap_id (by omega) (by omega)]
     by_cases h6 : (l.length : Int) = r * c
     ·refine ev_pos h6 ?_
      rw [show decide (BoOk r c l) = decide (∀ x ∈ l, CellOk x.f0 x.f1) from decide_eq_decide.2 ⟨fun h => h.2.2.2, fun h => ⟨⟨h1, h2⟩, ⟨h3, h4⟩, h6, h⟩⟩]
      unfold impl_validCells.f
      exact ev_bind (ev_neg (by omega) (validCells_loop l hm l [] rfl)) (ev_const rfl)
     ·exact ev_neg h6 (no (fun h => h6 h.2.2.1))
    ·exact ev_neg h4 (no (fun h => h4 h.2.1.2))
   ·exact ev_neg h3 (no (fun h => h3 h.2.1.1))
  ·exact ev_neg h2 (no (fun h => h2 h.1.2))
 ·exact ev_neg h1 (no (fun h => h1 h.1.1))
end Go.Proofs.Ytcilbmbgdcepgaa.A
end

section
/- The groups of gears and cogs of a board, in plain lists: both programs search them alike. -/
namespace Go.Proofs.Ytcilbmbgdcepgaa.A
open Go.RowKit YtcilbmbgdcepgaaW.PrintWords YtcilbmbgdcepgaaW.PrintLast YtcilbmbgdcepgaaW.PrintMore P T
set_option linter.unusedVariables false
set_option linter.unusedSimpArgs false

/-- The cells beside a cell: above, left, right, below. -/
def nearL (rows cols i : Nat) : List Nat :=
 (if 0 < i / cols then [i - cols] else []) ++ (if 0 < i % cols then [i - 1] else []) ++ (if i % cols + 1 < cols then [i + 1] else []) ++ (if i / cols + 1 < rows then [i + cols] else [])
theorem nearL_lt (rows cols i : Nat) (h : i < rows * cols) : ∀ x ∈ nearL rows cols i, x < rows * cols := by
 intro x hx
 have hc : 0 < cols := Nat.pos_of_ne_zero (fun e => by subst e; simp at h)
 have hd := Nat.div_add_mod i cols
 have hm := Nat.mod_lt i hc
 have hq : i / cols < rows := Nat.div_lt_of_lt_mul (by rw [Nat.mul_comm]; exact h)
 simp only [nearL, List.mem_append] at hx
 rcases hx with ((hx | hx) | hx) | hx
 ·split at hx
  ·simp at hx; omega
  ·simp at hx
 ·split at hx
  ·simp at hx; omega
  ·simp at hx
 ·split at hx
  ·simp at hx
   subst hx
   have : (i / cols + 1) * cols ≤ rows * cols := Nat.mul_le_mul_right _ hq
   rw [Nat.add_mul, Nat.mul_comm] at this
   omega
  ·simp at hx
 ·split at hx
  ·rename_i h2
   simp at hx
   subst hx
   have : (i / cols + 2) * cols ≤ rows * cols := Nat.mul_le_mul_right _ h2
   rw [Nat.add_mul, Nat.mul_comm] at this
   omega
  ·simp at hx
def gearB (x : S71) : Bool := decide (x.f0 = 6) || decide (x.f0 = 7)
/-- The neighbours that are gears without a group get the group g and are appended. -/
def visitL (cs : List S71) (g : Int) : List Nat → List Int → List Nat → List Int × List Nat
 | [], out, op => (out, op)
 | x :: l, out, op => if gearB (cs.getD x ⟨0, 0⟩) = true ∧ out.getD x 0 < 0 then visitL cs g l (out.set x g) (op ++ [x]) else visitL cs g l out op
/-- The group of the open cells from k on. -/
def bfsL (rows cols : Nat) (cs : List S71) (g : Int) : Nat → Nat → List Int → List Nat → List Int × List Nat
 | 0, _, out, op => (out, op)
 | d + 1, k, out, op => if k < op.length then bfsL rows cols cs g d (k + 1) (visitL cs g (nearL rows cols (op.getD k 0)) out op).1 (visitL cs g (nearL rows cols (op.getD k 0)) out op).2 else (out, op)
def negs (out : List Int) : Nat := (out.filter fun x => x < 0).length
theorem negs_set : ∀ (out : List Int) (x : Nat) (g : Int), 0 ≤ g → x < out.length → out.getD x 0 < 0 → negs (out.set x g) + 1 = negs out := by
 intro out
 induction out with
 | nil => intro x g _ h; simp at h
 | cons y out ih =>
  intro x g hg hx hn
  cases x with
  | zero =>
   simp at hn
   simp [negs, List.filter_cons, hn, show ¬ g < 0 by omega]
  | succ x =>
   have h1 := ih x g hg (by simpa using hx) (by simpa using hn)
   simp only [negs, List.set_cons_succ, List.filter_cons] at h1 ⊢
   by_cases h : y < 0
   ·simp [h]; omega
   ·simp [h]; exact h1
theorem visitL_ok (cs : List S71) (g : Int) (hg : 0 ≤ g) : ∀ (l : List Nat) (out : List Int) (op : List Nat), (∀ x ∈ l, x < out.length) → (∀ x ∈ op, x < out.length) →
  (visitL cs g l out op).1.length = out.length ∧ negs (visitL cs g l out op).1 + (visitL cs g l out op).2.length = negs out + op.length ∧ (∀ x ∈ (visitL cs g l out op).2, x < out.length) := by
 intro l
 induction l with
 | nil => intro out op _ h; exact ⟨rfl, rfl, h⟩
 | cons y l ih =>
  intro out op hl ho
  unfold visitL
  by_cases h : gearB (cs.getD y ⟨0, 0⟩) = true ∧ out.getD y 0 < 0
  ·rw [if_pos h]
   have hy := hl y (List.mem_cons_self ..)
   obtain ⟨h1, h2, h3⟩ := ih (out.set y g) (op ++ [y]) (fun x hx => by simpa using hl x (List.mem_cons_of_mem _ hx)) (fun x hx => by
    rcases List.mem_append.1 hx with hx | hx
    ·simpa using ho x hx
    ·simp at hx; subst hx; simpa using hy)
   have h4 := negs_set out y g hg hy h.2
   refine ⟨by simpa using h1, ?_, by simpa using h3⟩
   rw [h2]; simp; omega
  ·rw [if_neg h]
   exact ih out op (fun x hx => hl x (List.mem_cons_of_mem _ hx)) ho
theorem visitL_le (cs : List S71) (g : Int) : ∀ (l : List Nat) (out : List Int) (op : List Nat), op.length ≤ (visitL cs g l out op).2.length := by
 intro l
 induction l with
 | nil => intro out op; exact Nat.le_refl _
 | cons y l ih =>
  intro out op
  unfold visitL
  split
  ·exact Nat.le_trans (by simp) (ih ..)
  ·exact ih ..
/-- What one step of the queue leaves: the same length, one step less to go. -/
theorem bfsL_step (rows cols : Nat) (cs : List S71) (g : Int) (hg : 0 ≤ g) (d k : Nat) (out : List Int) (op : List Nat) (hn : out.length = rows * cols) (ho : ∀ x ∈ op, x < out.length) (hk : k < op.length) (h : negs out + (op.length - k) ≤ d + 1) :
  (visitL cs g (nearL rows cols (op.getD k 0)) out op).1.length = rows * cols ∧ (∀ x ∈ (visitL cs g (nearL rows cols (op.getD k 0)) out op).2, x < rows * cols) ∧ k + 1 ≤ (visitL cs g (nearL rows cols (op.getD k 0)) out op).2.length ∧
  negs (visitL cs g (nearL rows cols (op.getD k 0)) out op).1 + ((visitL cs g (nearL rows cols (op.getD k 0)) out op).2.length - (k + 1)) ≤ d := by
 have hx : op.getD k 0 < rows * cols := by
  rw [← hn]; apply ho
  rw [← List.getElem_eq_getD (h := hk)]; exact List.getElem_mem hk
 obtain ⟨h2, h3, h4⟩ := visitL_ok cs g hg (nearL rows cols (op.getD k 0)) out op (fun x hx' => by rw [hn]; exact nearL_lt rows cols _ hx x hx') ho
 have h5 := visitL_le cs g (nearL rows cols (op.getD k 0)) out op
 exact ⟨h2.trans hn, fun x hx' => by rw [← hn]; exact h4 x hx', by omega, by omega⟩
theorem bfsL_len (rows cols : Nat) (cs : List S71) (g : Int) (hg : 0 ≤ g) : ∀ (d k : Nat) (out : List Int) (op : List Nat), out.length = rows * cols → (∀ x ∈ op, x < rows * cols) → negs out + (op.length - k) ≤ d → (bfsL rows cols cs g d k out op).1.length = rows * cols := by
 intro d
 induction d with
 | zero => intro k out op hn _ _; exact hn
 | succ d ih =>
  intro k out op hn ho h
  unfold bfsL
  by_cases h1 : k < op.length
  ·rw [if_pos h1]
   obtain ⟨h2, h3, h4, h5⟩ := bfsL_step rows cols cs g hg d k out op hn (fun x hx => by rw [hn]; exact ho x hx) h1 h
   exact ih (k + 1) _ _ h2 h3 h5
  ·rw [if_neg h1]; exact hn
theorem negs_le (out : List Int) : negs out ≤ out.length := List.length_filter_le ..
/-- The groups of the cells from i on. -/
def groupsL (rows cols : Nat) (cs : List S71) : Nat → Nat → Int → List Int → List Int
 | 0, _, _, out => out
 | d + 1, i, g, out => if gearB (cs.getD i ⟨0, 0⟩) = true ∧ out.getD i 0 < 0 then groupsL rows cols cs d (i + 1) (g + 1) (bfsL rows cols cs g (rows * cols) 0 (out.set i g) [i]).1 else groupsL rows cols cs d (i + 1) g out
end Go.Proofs.Ytcilbmbgdcepgaa.A
end

section
/- A marble on a board, in plain lists. -/
namespace Go.Proofs.Ytcilbmbgdcepgaa.A
open Go.RowKit YtcilbmbgdcepgaaW.PrintWords YtcilbmbgdcepgaaW.PrintLast YtcilbmbgdcepgaaW.PrintMore P T
set_option linter.unusedVariables false
set_option linter.unusedSimpArgs false

/-- Where a marble goes from a cell. -/
def goesC (x : S71) (side : Int) : Int :=
 if x.f0 = 1 then -1 else if x.f0 = 2 then 1 else if x.f0 = 3 ∨ x.f0 = 6 then 2 * x.f1 - 1 else if x.f0 = 4 then -side else 0
def turnC (x : S71) : S71 := ⟨x.f0, 1 - x.f1⟩
/-- All gears of a group are turned. -/
def turnAll (groups : List Int) (g : Int) : Nat → List S71 → List S71
 | _, [] => []
 | i, y :: l => (if y.f0 = 6 ∧ rd groups (i : Int) = g then turnC y else y) :: turnAll groups g (i + 1) l
/-- What a marble turns in a cell. -/
def passC (groups : List Int) (cs : List S71) (i : Nat) : List S71 :=
 let x := cs.getD i ⟨0, 0⟩
 if x.f0 = 3 then cs.set i (turnC x) else if x.f0 = 6 then turnAll groups (rd groups (i : Int)) 0 cs else cs
/-- A marble from a row on, d rows being left: its end, row and column, and the cells behind it. -/
def goC (cols : Nat) (groups : List Int) : Nat → Nat → Int → Int → List S71 → (Int × Int × Int) × List S71
 | 0, row, col, _, cs => ((1, (row : Int), col), cs)
 | d + 1, row, col, side, cs =>
  let i := row * cols + col.toNat
  let x := cs.getD i ⟨0, 0⟩
  if x.f0 = 5 then ((2, (row : Int), col), cs) else
  let g := goesC x side
  let cs' := passC groups cs i
  if 0 ≤ col + g ∧ col + g ≤ (cols : Int) - 1 then goC cols groups d (row + 1) (col + g) (-g) cs' else ((3, (row : Int), col + g), cs')
theorem cellOk_turn {x : S71} (h : CellOk x.f0 x.f1) (hk : x.f0 = 3 ∨ x.f0 = 6) : CellOk (turnC x).f0 (turnC x).f1 := by
 obtain ⟨h1, h2⟩ := h
 exact ⟨h1, by simp only [turnC]; omega⟩
theorem turnAll_len (gs : List Int) (g : Int) : ∀ (l : List S71) (i : Nat), (turnAll gs g i l).length = l.length := by
 intro l
 induction l with
 | nil => intro i; rfl
 | cons y l ih => intro i; simp [turnAll, ih]
theorem turnAll_ok (gs : List Int) (g : Int) : ∀ (l : List S71) (i : Nat), (∀ x ∈ l, CellOk x.f0 x.f1) → ∀ x ∈ turnAll gs g i l, CellOk x.f0 x.f1 := by
 intro l
 induction l with
 | nil => intro i _ x hx; cases hx
 | cons y l ih =>
  intro i h x hx
  simp only [turnAll, List.mem_cons] at hx
  rcases hx with hx | hx
  ·subst hx
   split
   ·rename_i hc; exact cellOk_turn (h y (List.mem_cons_self ..)) (.inr hc.1)
   ·exact h y (List.mem_cons_self ..)
  ·exact ih (i + 1) (fun z hz => h z (List.mem_cons_of_mem _ hz)) x hx
theorem passC_len (gs : List Int) (cs : List S71) (i : Nat) : (passC gs cs i).length = cs.length := by
 unfold passC
 simp only
 split
 ·simp
 ·split
  ·exact turnAll_len ..
  ·rfl
theorem getD_ok {cs : List S71} (h : ∀ x ∈ cs, CellOk x.f0 x.f1) (i : Nat) : CellOk (cs.getD i ⟨0, 0⟩).f0 (cs.getD i ⟨0, 0⟩).f1 := by
 by_cases hi : i < cs.length
 ·rw [← List.getElem_eq_getD (h := hi)]; exact h _ (List.getElem_mem hi)
 ·rw [List.getD_eq_getElem?_getD, List.getElem?_eq_none (by omega)]; exact ⟨by decide, .inl rfl⟩
theorem passC_ok (gs : List Int) (cs : List S71) (i : Nat) (h : ∀ x ∈ cs, CellOk x.f0 x.f1) : ∀ x ∈ passC gs cs i, CellOk x.f0 x.f1 := by
 intro x hx
 unfold passC at hx
 simp only at hx
 split at hx
 ·rename_i h3
  rcases List.mem_or_eq_of_mem_set hx with hx | hx
  ·exact h x hx
  ·subst hx; exact cellOk_turn (getD_ok h i) (.inl h3)
 ·split at hx
  ·exact turnAll_ok _ _ _ _ h x hx
  ·exact h x hx
theorem passC_bo {R C : Int} {gs : List Int} {cs : List S71} {i : Nat} (h : BoOk R C cs) : BoOk R C (passC gs cs i) := ⟨h.1, h.2.1, by rw [passC_len]; exact h.2.2.1, passC_ok _ _ _ h.2.2.2⟩
/-- One step of the loop that turns all gears of a group. -/
theorem turnAll_step {gs : List Int} {g : Int} {cur Q : List S71} {i : Nat} (hi : i < cur.length) (h : cur.take i ++ turnAll gs g i (cur.drop i) = Q) :
  (((cur.getD i ⟨0, 0⟩).f0 = 6 ∧ rd gs (i : Int) = g) → (cur.set i (turnC (cur.getD i ⟨0, 0⟩))).take (i + 1) ++ turnAll gs g (i + 1) ((cur.set i (turnC (cur.getD i ⟨0, 0⟩))).drop (i + 1)) = Q) ∧
   (¬ ((cur.getD i ⟨0, 0⟩).f0 = 6 ∧ rd gs (i : Int) = g) → cur.take (i + 1) ++ turnAll gs g (i + 1) (cur.drop (i + 1)) = Q) := by
 have hd : cur.drop i = cur.getD i ⟨0, 0⟩ :: cur.drop (i + 1) := by rw [← List.getElem_eq_getD (h := hi)]; exact List.drop_eq_getElem_cons hi
 rw [hd, turnAll] at h
 constructor
 ·intro hc
  rw [if_pos hc] at h
  rw [List.drop_set_of_lt (by omega), ← h, List.take_set, List.take_succ_eq_append_getElem hi, List.set_append_right _ _ (by simp; omega)]
  simp [show i - min i cur.length = 0 by omega]
 ·intro hc
  rw [if_neg hc] at h
  rw [← h, List.take_succ_eq_append_getElem hi, List.getElem_eq_getD (fallback := ⟨0, 0⟩)]
  simp
/-- Without gears a board has no groups. -/
theorem groupsL_none (rows cols : Nat) (cs : List S71) (h : ∀ x ∈ cs, gearB x = false) : ∀ (d i : Nat) (g : Int) (out : List Int), groupsL rows cols cs d i g out = out := by
 have hg : ∀ i, gearB (cs.getD i ⟨0, 0⟩) = false := by
  intro i
  by_cases hi : i < cs.length
  ·rw [← List.getElem_eq_getD (h := hi)]; exact h _ (List.getElem_mem hi)
  ·rw [List.getD_eq_getElem?_getD, List.getElem?_eq_none (by omega)]; rfl
 intro d
 induction d with
 | zero => intro i g out; rfl
 | succ d ih => intro i g out; rw [groupsL, if_neg (by rw [hg i]; simp)]; exact ih ..
/-- The groups of a board. -/
def grpL (R C : Nat) (cs : List S71) : List Int := groupsL R C cs (R * C) 0 0 (List.replicate (R * C) (-1))
/-- What a marble alone comes to. -/
def fallL (R C : Nat) (cs : List S71) (col : Int) : (Int × Int × Int) × List S71 := goC C (grpL R C cs) R 0 col 0 cs
theorem goC_bo {R C : Int} (cols : Nat) (gs : List Int) : ∀ (d row : Nat) (col side : Int) (cs : List S71), BoOk R C cs → BoOk R C (goC cols gs d row col side cs).2 := by
 intro d
 induction d with
 | zero => intro row col side cs h; exact h
 | succ d ih =>
  intro row col side cs h
  rw [goC]
  simp only
  split
  ·exact h
  ·split
   ·exact ih _ _ _ _ (passC_bo h)
   ·exact passC_bo h
end Go.Proofs.Ytcilbmbgdcepgaa.A
end
