-- PRINTED by print.py (a twelfth state) out of the translation. Not trusted: Lean checks it.
import Derived.Test.YtbcphkblieeemaaDoorPx0
import Derived.Test.YtbcphkblieeemaaDoorPx6
namespace Go.Proofs.YtbcphkblieeemaaDoor.P
open Go.RowKit Go.Proofs.YtbcphkblieeemaaDoorW.PrintWords Go.Proofs.YtbcphkblieeemaaDoorW.PrintLast Go.Proofs.YtbcphkblieeemaaDoorW.PrintMore
attribute [local go_sem] max2_int min2_int max_two min_two max_three min_three max_four min_four   -- for this text's walks alone
set_option linter.unusedVariables false
set_option linter.unusedSimpArgs false

/-! ### spec_ctGood: function 34 -/
mutual
def spec_ctGood.l0 : Nat → List (S52) → Int → List (S52) → Int → Int → Option (Bool)
  | 0, _, _, _, _, _ => none
  | k + 1, x0, x1, x7, x8, x9 => if x9 < x8 then (if 0 ≤ x9 then (if x9 < (x7.length : Int) then ((spec_l1In.f ((rd_T52 x7 x9).f0) 0 3).bind fun t121 => (if t121 = true then ((spec_l1In.f ((rd_T52 x7 x9).f1) 0 (wrap64 (x1 - 1))).bind fun t122 => (if t122 = true then ((spec_l1In.f ((rd_T52 x7 x9).f2) 0 (x0.length : Int)).bind fun t123 => (spec_ctGood.j1 k x0 x1 x7 x8 x9 (!t123) ((rd_T52 x7 x9).f0) ((rd_T52 x7 x9).f1) ((rd_T52 x7 x9).f2))) else (spec_ctGood.j1 k x0 x1 x7 x8 x9 true ((rd_T52 x7 x9).f0) ((rd_T52 x7 x9).f1) ((rd_T52 x7 x9).f2)))) else (spec_ctGood.j1 k x0 x1 x7 x8 x9 true ((rd_T52 x7 x9).f0) ((rd_T52 x7 x9).f1) ((rd_T52 x7 x9).f2)))) else (none)) else (none)) else ((spec_l1In.f x1 1 4).bind fun t117 => (if t117 = true then ((spec_l1In.f (x0.length : Int) 1 20).bind fun t118 => (some t118)) else (some false)))
def spec_ctGood.j1 : Nat → List (S52) → Int → List (S52) → Int → Int → Bool → Int → Int → Int → Option (Bool)
  | 0, _, _, _, _, _, _, _, _, _ => none
  | k + 1, x0, x1, x7, x8, x9, x32, x121000, x121001, x121002 => if x32 = true then (some false) else (if x121000 ≥ 2 then (if x121001 = 0 then (if x121000 = 1 then (spec_ctGood.l0 k x0 x1 x7 x8 (wrap64 (x9 + 1))) else (if x121000 = 2 then (spec_ctGood.l0 k x0 x1 x7 x8 (wrap64 (x9 + 1))) else (if x121002 = 0 then (spec_ctGood.l0 k x0 x1 x7 x8 (wrap64 (x9 + 1))) else (some false)))) else (some false)) else (if x121000 = 1 then (spec_ctGood.l0 k x0 x1 x7 x8 (wrap64 (x9 + 1))) else (if x121000 = 2 then (spec_ctGood.l0 k x0 x1 x7 x8 (wrap64 (x9 + 1))) else (if x121002 = 0 then (spec_ctGood.l0 k x0 x1 x7 x8 (wrap64 (x9 + 1))) else (some false)))))
end
def spec_ctGood.f (k : Nat) (l0 : List (S52)) (a1 : Int) : Option (Bool) := spec_ctGood.l0 k l0 a1 l0 (l0.length : Int) 0
theorem spec_ctGood.mono_l : ∀ k, (∀ y0 y1 y2 y3 y4, LeO (spec_ctGood.l0 k y0 y1 y2 y3 y4) (spec_ctGood.l0 (k + 1) y0 y1 y2 y3 y4)) ∧ (∀ y0 y1 y2 y3 y4 y5 y6 y7 y8, LeO (spec_ctGood.j1 k y0 y1 y2 y3 y4 y5 y6 y7 y8) (spec_ctGood.j1 (k + 1) y0 y1 y2 y3 y4 y5 y6 y7 y8))
  | 0 => ⟨fun _ _ _ _ _ r h => by simp [spec_ctGood.l0] at h, fun _ _ _ _ _ _ _ _ _ r h => by simp [spec_ctGood.j1] at h⟩
  | k + 1 => by
    obtain ⟨ih0, ih1⟩ := spec_ctGood.mono_l k
    refine ⟨?_, ?_⟩
    · intro y0 y1 y2 y3 y4
      unfold spec_ctGood.l0
      repeat' first
      | (with_reducible exact ih0 _ _ _ _ _)
      | (with_reducible exact ih1 _ _ _ _ _ _ _ _ _)
      | (with_reducible exact LeO.refl _)
      | (with_reducible exact LeO.none _)
      | (with_reducible refine LeO.ite ?_ ?_)
      | (with_reducible refine LeO.bind ?_ (fun _ => ?_))
      | exact ih0 _ _ _ _ _
      | exact ih1 _ _ _ _ _ _ _ _ _
      | exact LeO.none _
      | refine LeO.ite ?_ ?_
      | refine LeO.bind ?_ (fun _ => ?_)
    · intro y0 y1 y2 y3 y4 y5 y6 y7 y8
      unfold spec_ctGood.j1
      repeat' first
      | (with_reducible exact ih0 _ _ _ _ _)
      | (with_reducible exact ih1 _ _ _ _ _ _ _ _ _)
      | (with_reducible exact LeO.refl _)
      | (with_reducible exact LeO.none _)
      | (with_reducible refine LeO.ite ?_ ?_)
      | (with_reducible refine LeO.bind ?_ (fun _ => ?_))
      | exact ih0 _ _ _ _ _
      | exact ih1 _ _ _ _ _ _ _ _ _
      | exact LeO.none _
      | refine LeO.ite ?_ ?_
      | refine LeO.bind ?_ (fun _ => ?_)
theorem spec_ctGood.mono : ∀ a0 a1 k, LeO (spec_ctGood.f k a0 a1) (spec_ctGood.f (k + 1) a0 a1) := by
  intro a0 a1 k
  obtain ⟨ih0, ih1⟩ := spec_ctGood.mono_l k
  unfold spec_ctGood.f
  repeat' first
      | (with_reducible exact ih0 _ _ _ _ _)
      | (with_reducible exact ih1 _ _ _ _ _ _ _ _ _)
      | (with_reducible exact LeO.refl _)
      | (with_reducible exact LeO.none _)
      | (with_reducible refine LeO.ite ?_ ?_)
      | (with_reducible refine LeO.bind ?_ (fun _ => ?_))
      | exact ih0 _ _ _ _ _
      | exact ih1 _ _ _ _ _ _ _ _ _
      | exact LeO.none _
      | refine LeO.ite ?_ ?_
      | refine LeO.bind ?_ (fun _ => ?_)
set_option maxHeartbeats 8000000 in
set_option maxRecDepth 100000 in
theorem spec_ctGood.calls (k : Nat) (A0 : Option Addr) (c0 : Nat) (l0 : List (S52)) (a1 : Int) (r : Bool) (w : World) (hr0 : Kd.C k52 w A0 l0.length l0) (hc0 : l0.length ≤ c0) (h : spec_ctGood.f k l0 a1 = some r) :
    Calls Tryd.prog 34 #[.slice A0 l0.length c0, .int .i64 a1] w fun e w' => e = .returned (.bool r) ∧ Below w.heap.size w w' := by
  have hu52 := Tryd.underlying52
  have HR0 := Aside0.mk hr0
  have HC0 := Aside0.mk hc0
  clear hr0 hc0
  have HB := Aside0.mk (Below.refl w.heap.size w)
  have H : (spec_ctGood.l0 k l0 a1 l0 (l0.length : Int) 0) = some r := h
  clear h
  have H' := Aside0.mk H
  clear H
  go_enter Tryd.func34, Tryd.ntmps34
  go_wp2
  go_loopg [9] k (fun kq v9 w' => ∃ (x9_1 : Int), v9 = .int .i64 x9_1 ∧ Aside0 (spec_ctGood.l0 kq l0 a1 l0 (l0.length : Int) x9_1 = some r) ∧ Aside0 (kq ≤ k) ∧ Aside0 (Below w.heap.size w w'))
  case atStart => exact ⟨(0), (by first | rfl | (simp; done) | (simp [*]; done)), H', ⟨Nat.le_refl _⟩, ⟨by repeat (first | (with_reducible first | exact HB.out | apply below_alloc | apply pw_below_drewN | apply below_drew1) | exact HB.out)⟩⟩
  case round =>
    clear H'
    try clear p2
    obtain ⟨x9_1, rfl, HA, HK1, HB⟩ := hrel
    cases gk with
    | zero => exact absurd HA.out (by simp [spec_ctGood.l0])
    | succ k1 =>
      have H := HA.out
      clear HA
      simp only [spec_ctGood.l0] at H
      by_cases c3 : x9_1 < (l0.length : Int)
      · rw [if_pos c3] at H
        have c3b0 : decide (x9_1 < (l0.length : Int)) = true := decide_eq_true c3
        clear c3
        by_cases c4 : 0 ≤ x9_1
        · rw [if_pos c4] at H
          have c4b0 : decide (0 ≤ x9_1) = true := decide_eq_true c4
          clear c4
          by_cases c5 : x9_1 < (l0.length : Int)
          · rw [if_pos c5] at H
            have c5b0 : decide (x9_1 < (l0.length : Int)) = true := decide_eq_true c5
            clear c5
            have HC6 := Aside0.mk H
            clear H
            have p119 : 0 ≤ (x9_1 : Int) := of_decide_eq_true (by first | (with_reducible assumption) | assumption)
            have q119 : x9_1 < (l0.length : Int) := of_decide_eq_true (by first | (with_reducible assumption) | assumption)
            obtain ⟨ad119, e119, hx119_0, hx119_1, hx119_2⟩ := at_T52 HR0.out x9_1 p119 q119
            cases e119
            replace hx119_0 := (HB.out.cell (World.block_lt_of_cell? w _ hx119_0)).trans hx119_0
            replace hx119_1 := (HB.out.cell (World.block_lt_of_cell? w _ hx119_1)).trans hx119_1
            replace hx119_2 := (HB.out.cell (World.block_lt_of_cell? w _ hx119_2)).trans hx119_2
            replace p119 := eq_true p119
            replace q119 := eq_true q119
            go_upto_region 4 with (first | ((with_reducible refine gate_dst (N := 6) rfl ?_); (try (refine gate_guard (by rfl) ?_; dsimp only)); refine box_event ?hg (N := 6) ?hd (cs := #[.int .i64 0, .int .i64 0, .int .i64 0]) (t := 52) ?hr ?_; (case hd => rfl); (case hg => rfl); (case hr => first | (go_simp; done) | (go_simp; rfl)); intro gb120 hg w7 hbox hb; have n0_ := Aside0.mk (below_step (by repeat (first | (with_reducible first | exact HB.out | apply below_alloc | apply pw_below_drewN | apply below_drew1) | exact HB.out)) hb); have n1_ := Aside0.mk (hbox); have n2_ := Aside0.mk ((by rw [hg]; exact (below_size (by repeat (first | (with_reducible first | exact HB.out | apply below_alloc | apply pw_below_drewN | apply below_drew1) | exact HB.out))) : w.heap.size ≤ gb120)); have n3_ := Aside0.mk ((by rw [hg]; exact (below_size (by repeat (first | (with_reducible first | exact HB.out | apply below_alloc | apply pw_below_drewN | apply below_drew1) | exact HB.out))) : w.heap.size ≤ gb120)); clear HB; have HB := n0_; have BK120 := n1_; have GW120 := n2_; have GE120 := n3_; clear n0_ n1_ n2_ n3_; clear hb hbox hg; have hcz8_0 : w7.cell? ⟨gb120, 0, none⟩ = some (.int .i64 0) := (blk_cell BK120.out 0).trans rfl; have hcz8_1 : w7.cell? ⟨gb120, 1, none⟩ = some (.int .i64 0) := (blk_cell BK120.out 1).trans rfl; have hcz8_2 : w7.cell? ⟨gb120, 2, none⟩ = some (.int .i64 0) := (blk_cell BK120.out 2).trans rfl; have hfz8_0 := blk_frozen BK120.out 0; have hfz8_1 := blk_frozen BK120.out 1; have hfz8_2 := blk_frozen BK120.out 2))
            (try simp only [Act.put, List.setIfInBounds_toArray, List.set_cons_zero, List.set_cons_succ])
            go_cut [32] (fun v32 wc => ∃ (kq : Nat) (x32_5 : Bool), v32 = .bool x32_5 ∧ Aside0 (spec_ctGood.j1 kq l0 a1 l0 (l0.length : Int) x9_1 x32_5 ((rd_T52 l0 x9_1).f0) ((rd_T52 l0 x9_1).f1) ((rd_T52 l0 x9_1).f2) = some r) ∧ Aside0 (kq ≤ k1) ∧ Aside0 (wc.heap[gb120]? = some (.cells #[.int .i64 ((rd_T52 l0 x9_1).f0), .int .i64 ((rd_T52 l0 x9_1).f1), .int .i64 ((rd_T52 l0 x9_1).f2)] 52 (0, 0))) ∧ Aside0 (Below w.heap.size w wc))
            case first =>
              have H := HC6.out
              clear HC6
              replace H := Option.bind_eq_some_iff.mp H
              obtain ⟨t121, A90, H⟩ := H
              replace H : (if t121 = true then ((spec_l1In.f ((rd_T52 l0 x9_1).f1) 0 (wrap64 (a1 - 1))).bind fun t122 => (if t122 = true then ((spec_l1In.f ((rd_T52 l0 x9_1).f2) 0 (l0.length : Int)).bind fun t123 => (spec_ctGood.j1 k1 l0 a1 l0 (l0.length : Int) x9_1 (!t123) ((rd_T52 l0 x9_1).f0) ((rd_T52 l0 x9_1).f1) ((rd_T52 l0 x9_1).f2))) else (spec_ctGood.j1 k1 l0 a1 l0 (l0.length : Int) x9_1 true ((rd_T52 l0 x9_1).f0) ((rd_T52 l0 x9_1).f1) ((rd_T52 l0 x9_1).f2)))) else (spec_ctGood.j1 k1 l0 a1 l0 (l0.length : Int) x9_1 true ((rd_T52 l0 x9_1).f0) ((rd_T52 l0 x9_1).f1) ((rd_T52 l0 x9_1).f2))) = some r := H
              have A9 := Aside0.mk A90
              clear A90
              by_cases c10 : t121 = true
              · subst c10
                have H1 : ((spec_l1In.f ((rd_T52 l0 x9_1).f1) 0 (wrap64 (a1 - 1))).bind fun t122 => (if t122 = true then ((spec_l1In.f ((rd_T52 l0 x9_1).f2) 0 (l0.length : Int)).bind fun t123 => (spec_ctGood.j1 k1 l0 a1 l0 (l0.length : Int) x9_1 (!t123) ((rd_T52 l0 x9_1).f0) ((rd_T52 l0 x9_1).f1) ((rd_T52 l0 x9_1).f2))) else (spec_ctGood.j1 k1 l0 a1 l0 (l0.length : Int) x9_1 true ((rd_T52 l0 x9_1).f0) ((rd_T52 l0 x9_1).f1) ((rd_T52 l0 x9_1).f2)))) = some r := by rw [if_pos rfl] at H; exact H
                clear H
                have H := H1
                clear H1
                replace H := Option.bind_eq_some_iff.mp H
                obtain ⟨t122, A110, H⟩ := H
                replace H : (if t122 = true then ((spec_l1In.f ((rd_T52 l0 x9_1).f2) 0 (l0.length : Int)).bind fun t123 => (spec_ctGood.j1 k1 l0 a1 l0 (l0.length : Int) x9_1 (!t123) ((rd_T52 l0 x9_1).f0) ((rd_T52 l0 x9_1).f1) ((rd_T52 l0 x9_1).f2))) else (spec_ctGood.j1 k1 l0 a1 l0 (l0.length : Int) x9_1 true ((rd_T52 l0 x9_1).f0) ((rd_T52 l0 x9_1).f1) ((rd_T52 l0 x9_1).f2))) = some r := H
                have A11 := Aside0.mk A110
                clear A110
                by_cases c12 : t122 = true
                · subst c12
                  have H1 : ((spec_l1In.f ((rd_T52 l0 x9_1).f2) 0 (l0.length : Int)).bind fun t123 => (spec_ctGood.j1 k1 l0 a1 l0 (l0.length : Int) x9_1 (!t123) ((rd_T52 l0 x9_1).f0) ((rd_T52 l0 x9_1).f1) ((rd_T52 l0 x9_1).f2))) = some r := by rw [if_pos rfl] at H; exact H
                  clear H
                  have H := H1
                  clear H1
                  replace H := Option.bind_eq_some_iff.mp H
                  obtain ⟨t123, A130, H⟩ := H
                  replace H : (spec_ctGood.j1 k1 l0 a1 l0 (l0.length : Int) x9_1 (!t123) ((rd_T52 l0 x9_1).f0) ((rd_T52 l0 x9_1).f1) ((rd_T52 l0 x9_1).f2)) = some r := H
                  have A13 := Aside0.mk A130
                  clear A130
                  have H' := Aside0.mk H
                  clear H
                  have hcz14_0 : w7.cell? ⟨gb120, 0, none⟩ = some (.int .i64 0) := (blk_cell BK120.out 0).trans rfl
                  have hcz14_1 : w7.cell? ⟨gb120, 1, none⟩ = some (.int .i64 0) := (blk_cell BK120.out 1).trans rfl
                  have hcz14_2 : w7.cell? ⟨gb120, 2, none⟩ = some (.int .i64 0) := (blk_cell BK120.out 2).trans rfl
                  have hfz14_0 := blk_frozen BK120.out 0
                  have hfz14_1 := blk_frozen BK120.out 1
                  have hfz14_2 := blk_frozen BK120.out 2
                  go_wp2_with (first | ((with_reducible refine gate_callee (f := 43) rfl ?_); refine goesL_ (some 15) rfl rfl Tryd.func43 (by kernel_rfl) rfl #[.int .i64 ((rd_T52 l0 x9_1).f0), .int .i64 0, .int .i64 3] rfl (by (try simp only [List.map_toArray, List.map_cons, List.map_nil]); first | done | rfl | (simp only [List.length_drop, List.length_take]; rfl)) ?_; (with_reducible refine (spec_l1In.calls ((rd_T52 l0 x9_1).f0) 0 3 true _ A9.out).mono ?_); rintro e w' ⟨rfl, ⟨nd, rfl⟩⟩; refine ⟨_, rfl, ?_⟩) | (go_at_call 43; (with_reducible refine (spec_l1In.calls ((rd_T52 l0 x9_1).f1) 0 (wrap64 (a1 - 1)) true _ A11.out).mono ?_); rintro e w' ⟨rfl, ⟨nd, rfl⟩⟩) | (go_at_call 43; (with_reducible refine (spec_l1In.calls ((rd_T52 l0 x9_1).f2) 0 (l0.length : Int) t123 _ A13.out).mono ?_); rintro e w' ⟨rfl, ⟨nd, rfl⟩⟩))
                  go_meet
                  case rel => exact ⟨_, (!t123), (by first | rfl | (simp; done) | (simp [*]; done)), H', ⟨by have := HK1.out; first | omega | exact Nat.le_refl _⟩, ⟨by (with_reducible repeat (first | refine blk_drewN ?_ _ | refine blk_drew ?_ | refine blk_alloc ?_ _)); refine blk_put (cs := #[.int .i64 ((rd_T52 l0 x9_1).f0), .int .i64 ((rd_T52 l0 x9_1).f1), .int .i64 0]) ?_ 2 _ rfl; (with_reducible repeat (first | refine blk_drewN ?_ _ | refine blk_drew ?_ | refine blk_alloc ?_ _)); refine blk_put (cs := #[.int .i64 ((rd_T52 l0 x9_1).f0), .int .i64 0, .int .i64 0]) ?_ 1 _ rfl; (with_reducible repeat (first | refine blk_drewN ?_ _ | refine blk_drew ?_ | refine blk_alloc ?_ _)); refine blk_put (cs := #[.int .i64 0, .int .i64 0, .int .i64 0]) ?_ 0 _ rfl; (with_reducible repeat (first | refine blk_drewN ?_ _ | refine blk_drew ?_ | refine blk_alloc ?_ _)); exact BK120.out⟩, ⟨by repeat (first | (with_reducible first | exact HB.out | apply below_alloc | apply pw_below_drewN | apply below_drew1 | refine below_set ?_ GE120.out) | exact HB.out)⟩⟩
                · replace c12 := Bool.eq_false_iff.mpr c12
                  subst c12
                  have H1 : (spec_ctGood.j1 k1 l0 a1 l0 (l0.length : Int) x9_1 true ((rd_T52 l0 x9_1).f0) ((rd_T52 l0 x9_1).f1) ((rd_T52 l0 x9_1).f2)) = some r := by rw [if_neg (show ¬ (false = true) by decide)] at H; exact H
                  clear H
                  have H := H1
                  clear H1
                  have H' := Aside0.mk H
                  clear H
                  have hcz15_0 : w7.cell? ⟨gb120, 0, none⟩ = some (.int .i64 0) := (blk_cell BK120.out 0).trans rfl
                  have hcz15_1 : w7.cell? ⟨gb120, 1, none⟩ = some (.int .i64 0) := (blk_cell BK120.out 1).trans rfl
                  have hcz15_2 : w7.cell? ⟨gb120, 2, none⟩ = some (.int .i64 0) := (blk_cell BK120.out 2).trans rfl
                  have hfz15_0 := blk_frozen BK120.out 0
                  have hfz15_1 := blk_frozen BK120.out 1
                  have hfz15_2 := blk_frozen BK120.out 2
                  go_wp2_with (first | ((with_reducible refine gate_callee (f := 43) rfl ?_); refine goesL_ (some 15) rfl rfl Tryd.func43 (by kernel_rfl) rfl #[.int .i64 ((rd_T52 l0 x9_1).f0), .int .i64 0, .int .i64 3] rfl (by (try simp only [List.map_toArray, List.map_cons, List.map_nil]); first | done | rfl | (simp only [List.length_drop, List.length_take]; rfl)) ?_; (with_reducible refine (spec_l1In.calls ((rd_T52 l0 x9_1).f0) 0 3 true _ A9.out).mono ?_); rintro e w' ⟨rfl, ⟨nd, rfl⟩⟩; refine ⟨_, rfl, ?_⟩) | (go_at_call 43; (with_reducible refine (spec_l1In.calls ((rd_T52 l0 x9_1).f1) 0 (wrap64 (a1 - 1)) false _ A11.out).mono ?_); rintro e w' ⟨rfl, ⟨nd, rfl⟩⟩))
                  go_meet
                  case rel => exact ⟨_, (true), (by first | rfl | (simp; done) | (simp [*]; done)), H', ⟨by have := HK1.out; first | omega | exact Nat.le_refl _⟩, ⟨by (with_reducible repeat (first | refine blk_drewN ?_ _ | refine blk_drew ?_ | refine blk_alloc ?_ _)); refine blk_put (cs := #[.int .i64 ((rd_T52 l0 x9_1).f0), .int .i64 ((rd_T52 l0 x9_1).f1), .int .i64 0]) ?_ 2 _ rfl; (with_reducible repeat (first | refine blk_drewN ?_ _ | refine blk_drew ?_ | refine blk_alloc ?_ _)); refine blk_put (cs := #[.int .i64 ((rd_T52 l0 x9_1).f0), .int .i64 0, .int .i64 0]) ?_ 1 _ rfl; (with_reducible repeat (first | refine blk_drewN ?_ _ | refine blk_drew ?_ | refine blk_alloc ?_ _)); refine blk_put (cs := #[.int .i64 0, .int .i64 0, .int .i64 0]) ?_ 0 _ rfl; (with_reducible repeat (first | refine blk_drewN ?_ _ | refine blk_drew ?_ | refine blk_alloc ?_ _)); exact BK120.out⟩, ⟨by repeat (first | (with_reducible first | exact HB.out | apply below_alloc | apply pw_below_drewN | apply below_drew1 | refine below_set ?_ GE120.out) | exact HB.out)⟩⟩
              · replace c10 := Bool.eq_false_iff.mpr c10
                subst c10
                have H1 : (spec_ctGood.j1 k1 l0 a1 l0 (l0.length : Int) x9_1 true ((rd_T52 l0 x9_1).f0) ((rd_T52 l0 x9_1).f1) ((rd_T52 l0 x9_1).f2)) = some r := by rw [if_neg (show ¬ (false = true) by decide)] at H; exact H
                clear H
                have H := H1
                clear H1
                have H' := Aside0.mk H
                clear H
                have hcz16_0 : w7.cell? ⟨gb120, 0, none⟩ = some (.int .i64 0) := (blk_cell BK120.out 0).trans rfl
                have hcz16_1 : w7.cell? ⟨gb120, 1, none⟩ = some (.int .i64 0) := (blk_cell BK120.out 1).trans rfl
                have hcz16_2 : w7.cell? ⟨gb120, 2, none⟩ = some (.int .i64 0) := (blk_cell BK120.out 2).trans rfl
                have hfz16_0 := blk_frozen BK120.out 0
                have hfz16_1 := blk_frozen BK120.out 1
                have hfz16_2 := blk_frozen BK120.out 2
                go_wp2_with (first | ((with_reducible refine gate_callee (f := 43) rfl ?_); refine goesL_ (some 15) rfl rfl Tryd.func43 (by kernel_rfl) rfl #[.int .i64 ((rd_T52 l0 x9_1).f0), .int .i64 0, .int .i64 3] rfl (by (try simp only [List.map_toArray, List.map_cons, List.map_nil]); first | done | rfl | (simp only [List.length_drop, List.length_take]; rfl)) ?_; (with_reducible refine (spec_l1In.calls ((rd_T52 l0 x9_1).f0) 0 3 false _ A9.out).mono ?_); rintro e w' ⟨rfl, ⟨nd, rfl⟩⟩; refine ⟨_, rfl, ?_⟩))
                go_meet
                case rel => exact ⟨_, (true), (by first | rfl | (simp; done) | (simp [*]; done)), H', ⟨by have := HK1.out; first | omega | exact Nat.le_refl _⟩, ⟨by (with_reducible repeat (first | refine blk_drewN ?_ _ | refine blk_drew ?_ | refine blk_alloc ?_ _)); refine blk_put (cs := #[.int .i64 ((rd_T52 l0 x9_1).f0), .int .i64 ((rd_T52 l0 x9_1).f1), .int .i64 0]) ?_ 2 _ rfl; (with_reducible repeat (first | refine blk_drewN ?_ _ | refine blk_drew ?_ | refine blk_alloc ?_ _)); refine blk_put (cs := #[.int .i64 ((rd_T52 l0 x9_1).f0), .int .i64 0, .int .i64 0]) ?_ 1 _ rfl; (with_reducible repeat (first | refine blk_drewN ?_ _ | refine blk_drew ?_ | refine blk_alloc ?_ _)); refine blk_put (cs := #[.int .i64 0, .int .i64 0, .int .i64 0]) ?_ 0 _ rfl; (with_reducible repeat (first | refine blk_drewN ?_ _ | refine blk_drew ?_ | refine blk_alloc ?_ _)); exact BK120.out⟩, ⟨by repeat (first | (with_reducible first | exact HB.out | apply below_alloc | apply pw_below_drewN | apply below_drew1 | refine below_set ?_ GE120.out) | exact HB.out)⟩⟩
            case rest =>
              clear HC6
              try clear c1
              try clear p1
              try clear q1
              try clear hx1
              try clear p2
              try clear c3
              try clear c3b0
              try clear c4
              try clear c4b0
              try clear c5
              try clear c5b0
              try clear p6
              try clear c10
              try clear p11
              try clear q11
              try clear hx11
              try clear c12
              try clear hcz14_0
              try clear hcz14_1
              try clear hcz14_2
              try clear hcz15_0
              try clear hcz15_1
              try clear hcz15_2
              try clear hcz16_0
              try clear hcz16_1
              try clear hcz16_2
              try clear hcz8_0
              try clear hcz8_1
              try clear hcz8_2
              try clear hfz14_0
              try clear hfz14_1
              try clear hfz14_2
              try clear hfz15_0
              try clear hfz15_1
              try clear hfz15_2
              try clear hfz16_0
              try clear hfz16_1
              try clear hfz16_2
              try clear hfz8_0
              try clear hfz8_1
              try clear hfz8_2
              try clear hx119_0
              try clear hx119_1
              try clear hx119_2
              try clear p119
              try clear p2
              try clear q119
              obtain ⟨kq, x32_5, rfl, HA, HJ5, BK120, HB⟩ := hcut
              cases kq with
              | zero => exact absurd HA.out (by simp [spec_ctGood.j1])
              | succ kj5 =>
                have H := HA.out
                clear HA
                simp only [spec_ctGood.j1] at H
                by_cases c17 : x32_5 = true
                · subst c17
                  have H1 : (some false) = some r := by rw [if_pos rfl] at H; exact H
                  clear H
                  have H := H1
                  clear H1
                  obtain rfl := Option.some.inj H
                  go_wp2
                  go_ret
                  exact ⟨by first | rfl | (simp [errW_none, errW_some] <;> rfl) | (simp [*, errW_none, errW_some] <;> rfl), by repeat (first | (with_reducible first | exact HB.out | apply below_alloc | apply pw_below_drewN | apply below_drew1 | refine below_set ?_ GE120.out) | exact HB.out)⟩
                · replace c17 := Bool.eq_false_iff.mpr c17
                  subst c17
                  have H1 : (if ((rd_T52 l0 x9_1).f0) ≥ 2 then (if ((rd_T52 l0 x9_1).f1) = 0 then (if ((rd_T52 l0 x9_1).f0) = 1 then (spec_ctGood.l0 kj5 l0 a1 l0 (l0.length : Int) (wrap64 (x9_1 + 1))) else (if ((rd_T52 l0 x9_1).f0) = 2 then (spec_ctGood.l0 kj5 l0 a1 l0 (l0.length : Int) (wrap64 (x9_1 + 1))) else (if ((rd_T52 l0 x9_1).f2) = 0 then (spec_ctGood.l0 kj5 l0 a1 l0 (l0.length : Int) (wrap64 (x9_1 + 1))) else (some false)))) else (some false)) else (if ((rd_T52 l0 x9_1).f0) = 1 then (spec_ctGood.l0 kj5 l0 a1 l0 (l0.length : Int) (wrap64 (x9_1 + 1))) else (if ((rd_T52 l0 x9_1).f0) = 2 then (spec_ctGood.l0 kj5 l0 a1 l0 (l0.length : Int) (wrap64 (x9_1 + 1))) else (if ((rd_T52 l0 x9_1).f2) = 0 then (spec_ctGood.l0 kj5 l0 a1 l0 (l0.length : Int) (wrap64 (x9_1 + 1))) else (some false))))) = some r := by rw [if_neg (show ¬ (false = true) by decide)] at H; exact H
                  clear H
                  have H := H1
                  clear H1
                  by_cases c18 : ((rd_T52 l0 x9_1).f0) ≥ 2
                  · rw [if_pos c18] at H
                    have c18b0 : decide (2 ≤ ((rd_T52 l0 x9_1).f0)) = true := decide_eq_true c18
                    clear c18
                    by_cases c19 : ((rd_T52 l0 x9_1).f1) = 0
                    · rw [if_pos c19] at H
                      have c19b0 : (((rd_T52 l0 x9_1).f1) == 0) = true := beq_iff_eq.mpr c19
                      have c19b1 : (((rd_T52 l0 x9_1).f1) != 0) = false := bne_eq_false_iff_eq.mpr c19
                      clear c19
                      by_cases c20 : ((rd_T52 l0 x9_1).f0) = 1
                      · rw [if_pos c20] at H
                        have c20b0 : (((rd_T52 l0 x9_1).f0) == 1) = true := beq_iff_eq.mpr c20
                        have c20b1 : (((rd_T52 l0 x9_1).f0) != 1) = false := bne_eq_false_iff_eq.mpr c20
                        clear c20
                        have H' := Aside0.mk H
                        clear H
                        have hcz21_0 : wc.cell? ⟨gb120, 0, none⟩ = some (.int .i64 ((rd_T52 l0 x9_1).f0)) := (blk_cell BK120.out 0).trans rfl
                        have hcz21_1 : wc.cell? ⟨gb120, 1, none⟩ = some (.int .i64 ((rd_T52 l0 x9_1).f1)) := (blk_cell BK120.out 1).trans rfl
                        have hcz21_2 : wc.cell? ⟨gb120, 2, none⟩ = some (.int .i64 ((rd_T52 l0 x9_1).f2)) := (blk_cell BK120.out 2).trans rfl
                        have hfz21_0 := blk_frozen BK120.out 0
                        have hfz21_1 := blk_frozen BK120.out 1
                        have hfz21_2 := blk_frozen BK120.out 2
                        go_wp2
                        go_roundg kj5
                        case measure => have := HK1.out; have := HJ5.out; omega
                        case rel => exact ⟨(wrap64 (x9_1 + 1)), (by first | rfl | (simp; done) | (simp [*]; done)), H', ⟨by have := HK1.out; have := HJ5.out; omega⟩, ⟨by repeat (first | (with_reducible first | exact HB.out | apply below_alloc | apply pw_below_drewN | apply below_drew1 | refine below_set ?_ GE120.out) | exact HB.out)⟩⟩
                      · rw [if_neg c20] at H
                        have c20b0 : (((rd_T52 l0 x9_1).f0) == 1) = false := beq_eq_false_iff_ne.mpr c20
                        have c20b1 : (((rd_T52 l0 x9_1).f0) != 1) = true := bne_iff_ne.mpr c20
                        by_cases c22 : ((rd_T52 l0 x9_1).f0) = 2
                        · rw [if_pos c22] at H
                          have c22b0 : (((rd_T52 l0 x9_1).f0) == 2) = true := beq_iff_eq.mpr c22
                          have c22b1 : (((rd_T52 l0 x9_1).f0) != 2) = false := bne_eq_false_iff_eq.mpr c22
                          clear c22
                          have H' := Aside0.mk H
                          clear H
                          have hcz23_0 : wc.cell? ⟨gb120, 0, none⟩ = some (.int .i64 ((rd_T52 l0 x9_1).f0)) := (blk_cell BK120.out 0).trans rfl
                          have hcz23_1 : wc.cell? ⟨gb120, 1, none⟩ = some (.int .i64 ((rd_T52 l0 x9_1).f1)) := (blk_cell BK120.out 1).trans rfl
                          have hcz23_2 : wc.cell? ⟨gb120, 2, none⟩ = some (.int .i64 ((rd_T52 l0 x9_1).f2)) := (blk_cell BK120.out 2).trans rfl
                          have hfz23_0 := blk_frozen BK120.out 0
                          have hfz23_1 := blk_frozen BK120.out 1
                          have hfz23_2 := blk_frozen BK120.out 2
                          go_wp2
                          go_roundg kj5
                          case measure => have := HK1.out; have := HJ5.out; omega
                          case rel => exact ⟨(wrap64 (x9_1 + 1)), (by first | rfl | (simp; done) | (simp [*]; done)), H', ⟨by have := HK1.out; have := HJ5.out; omega⟩, ⟨by repeat (first | (with_reducible first | exact HB.out | apply below_alloc | apply pw_below_drewN | apply below_drew1 | refine below_set ?_ GE120.out) | exact HB.out)⟩⟩
                        · rw [if_neg c22] at H
                          have c22b0 : (((rd_T52 l0 x9_1).f0) == 2) = false := beq_eq_false_iff_ne.mpr c22
                          have c22b1 : (((rd_T52 l0 x9_1).f0) != 2) = true := bne_iff_ne.mpr c22
                          by_cases c24 : ((rd_T52 l0 x9_1).f2) = 0
                          · rw [if_pos c24] at H
                            have c24b0 : (((rd_T52 l0 x9_1).f2) == 0) = true := beq_iff_eq.mpr c24
                            have c24b1 : (((rd_T52 l0 x9_1).f2) != 0) = false := bne_eq_false_iff_eq.mpr c24
                            clear c24
                            have H' := Aside0.mk H
                            clear H
                            have hcz25_0 : wc.cell? ⟨gb120, 0, none⟩ = some (.int .i64 ((rd_T52 l0 x9_1).f0)) := (blk_cell BK120.out 0).trans rfl
                            have hcz25_1 : wc.cell? ⟨gb120, 1, none⟩ = some (.int .i64 ((rd_T52 l0 x9_1).f1)) := (blk_cell BK120.out 1).trans rfl
                            have hcz25_2 : wc.cell? ⟨gb120, 2, none⟩ = some (.int .i64 ((rd_T52 l0 x9_1).f2)) := (blk_cell BK120.out 2).trans rfl
                            have hfz25_0 := blk_frozen BK120.out 0
                            have hfz25_1 := blk_frozen BK120.out 1
                            have hfz25_2 := blk_frozen BK120.out 2
                            go_wp2
                            go_roundg kj5
                            case measure => have := HK1.out; have := HJ5.out; omega
                            case rel => exact ⟨(wrap64 (x9_1 + 1)), (by first | rfl | (simp; done) | (simp [*]; done)), H', ⟨by have := HK1.out; have := HJ5.out; omega⟩, ⟨by repeat (first | (with_reducible first | exact HB.out | apply below_alloc | apply pw_below_drewN | apply below_drew1 | refine below_set ?_ GE120.out) | exact HB.out)⟩⟩
                          · rw [if_neg c24] at H
                            have c24b0 : (((rd_T52 l0 x9_1).f2) == 0) = false := beq_eq_false_iff_ne.mpr c24
                            have c24b1 : (((rd_T52 l0 x9_1).f2) != 0) = true := bne_iff_ne.mpr c24
                            obtain rfl := Option.some.inj H
                            have hcz26_0 : wc.cell? ⟨gb120, 0, none⟩ = some (.int .i64 ((rd_T52 l0 x9_1).f0)) := (blk_cell BK120.out 0).trans rfl
                            have hcz26_1 : wc.cell? ⟨gb120, 1, none⟩ = some (.int .i64 ((rd_T52 l0 x9_1).f1)) := (blk_cell BK120.out 1).trans rfl
                            have hcz26_2 : wc.cell? ⟨gb120, 2, none⟩ = some (.int .i64 ((rd_T52 l0 x9_1).f2)) := (blk_cell BK120.out 2).trans rfl
                            have hfz26_0 := blk_frozen BK120.out 0
                            have hfz26_1 := blk_frozen BK120.out 1
                            have hfz26_2 := blk_frozen BK120.out 2
                            go_wp2
                            go_ret
                            exact ⟨by first | rfl | (simp [errW_none, errW_some] <;> rfl) | (simp [*, errW_none, errW_some] <;> rfl), by repeat (first | (with_reducible first | exact HB.out | apply below_alloc | apply pw_below_drewN | apply below_drew1 | refine below_set ?_ GE120.out) | exact HB.out)⟩
                    · rw [if_neg c19] at H
                      have c19b0 : (((rd_T52 l0 x9_1).f1) == 0) = false := beq_eq_false_iff_ne.mpr c19
                      have c19b1 : (((rd_T52 l0 x9_1).f1) != 0) = true := bne_iff_ne.mpr c19
                      obtain rfl := Option.some.inj H
                      have hcz27_0 : wc.cell? ⟨gb120, 0, none⟩ = some (.int .i64 ((rd_T52 l0 x9_1).f0)) := (blk_cell BK120.out 0).trans rfl
                      have hcz27_1 : wc.cell? ⟨gb120, 1, none⟩ = some (.int .i64 ((rd_T52 l0 x9_1).f1)) := (blk_cell BK120.out 1).trans rfl
                      have hcz27_2 : wc.cell? ⟨gb120, 2, none⟩ = some (.int .i64 ((rd_T52 l0 x9_1).f2)) := (blk_cell BK120.out 2).trans rfl
                      have hfz27_0 := blk_frozen BK120.out 0
                      have hfz27_1 := blk_frozen BK120.out 1
                      have hfz27_2 := blk_frozen BK120.out 2
                      go_wp2
                      go_ret
                      exact ⟨by first | rfl | (simp [errW_none, errW_some] <;> rfl) | (simp [*, errW_none, errW_some] <;> rfl), by repeat (first | (with_reducible first | exact HB.out | apply below_alloc | apply pw_below_drewN | apply below_drew1 | refine below_set ?_ GE120.out) | exact HB.out)⟩
                  · rw [if_neg c18] at H
                    have c18b0 : decide (2 ≤ ((rd_T52 l0 x9_1).f0)) = false := decide_eq_false c18
                    clear c18
                    by_cases c28 : ((rd_T52 l0 x9_1).f0) = 1
                    · rw [if_pos c28] at H
                      have c28b0 : (((rd_T52 l0 x9_1).f0) == 1) = true := beq_iff_eq.mpr c28
                      have c28b1 : (((rd_T52 l0 x9_1).f0) != 1) = false := bne_eq_false_iff_eq.mpr c28
                      clear c28
                      have H' := Aside0.mk H
                      clear H
                      have hcz29_0 : wc.cell? ⟨gb120, 0, none⟩ = some (.int .i64 ((rd_T52 l0 x9_1).f0)) := (blk_cell BK120.out 0).trans rfl
                      have hcz29_1 : wc.cell? ⟨gb120, 1, none⟩ = some (.int .i64 ((rd_T52 l0 x9_1).f1)) := (blk_cell BK120.out 1).trans rfl
                      have hcz29_2 : wc.cell? ⟨gb120, 2, none⟩ = some (.int .i64 ((rd_T52 l0 x9_1).f2)) := (blk_cell BK120.out 2).trans rfl
                      have hfz29_0 := blk_frozen BK120.out 0
                      have hfz29_1 := blk_frozen BK120.out 1
                      have hfz29_2 := blk_frozen BK120.out 2
                      go_wp2
                      go_roundg kj5
                      case measure => have := HK1.out; have := HJ5.out; omega
                      case rel => exact ⟨(wrap64 (x9_1 + 1)), (by first | rfl | (simp; done) | (simp [*]; done)), H', ⟨by have := HK1.out; have := HJ5.out; omega⟩, ⟨by repeat (first | (with_reducible first | exact HB.out | apply below_alloc | apply pw_below_drewN | apply below_drew1 | refine below_set ?_ GE120.out) | exact HB.out)⟩⟩
                    · rw [if_neg c28] at H
                      have c28b0 : (((rd_T52 l0 x9_1).f0) == 1) = false := beq_eq_false_iff_ne.mpr c28
                      have c28b1 : (((rd_T52 l0 x9_1).f0) != 1) = true := bne_iff_ne.mpr c28
                      by_cases c30 : ((rd_T52 l0 x9_1).f0) = 2
                      · rw [if_pos c30] at H
                        have c30b0 : (((rd_T52 l0 x9_1).f0) == 2) = true := beq_iff_eq.mpr c30
                        have c30b1 : (((rd_T52 l0 x9_1).f0) != 2) = false := bne_eq_false_iff_eq.mpr c30
                        clear c30
                        have H' := Aside0.mk H
                        clear H
                        have hcz31_0 : wc.cell? ⟨gb120, 0, none⟩ = some (.int .i64 ((rd_T52 l0 x9_1).f0)) := (blk_cell BK120.out 0).trans rfl
                        have hcz31_1 : wc.cell? ⟨gb120, 1, none⟩ = some (.int .i64 ((rd_T52 l0 x9_1).f1)) := (blk_cell BK120.out 1).trans rfl
                        have hcz31_2 : wc.cell? ⟨gb120, 2, none⟩ = some (.int .i64 ((rd_T52 l0 x9_1).f2)) := (blk_cell BK120.out 2).trans rfl
                        have hfz31_0 := blk_frozen BK120.out 0
                        have hfz31_1 := blk_frozen BK120.out 1
                        have hfz31_2 := blk_frozen BK120.out 2
                        go_wp2
                        go_roundg kj5
                        case measure => have := HK1.out; have := HJ5.out; omega
                        case rel => exact ⟨(wrap64 (x9_1 + 1)), (by first | rfl | (simp; done) | (simp [*]; done)), H', ⟨by have := HK1.out; have := HJ5.out; omega⟩, ⟨by repeat (first | (with_reducible first | exact HB.out | apply below_alloc | apply pw_below_drewN | apply below_drew1 | refine below_set ?_ GE120.out) | exact HB.out)⟩⟩
                      · rw [if_neg c30] at H
                        have c30b0 : (((rd_T52 l0 x9_1).f0) == 2) = false := beq_eq_false_iff_ne.mpr c30
                        have c30b1 : (((rd_T52 l0 x9_1).f0) != 2) = true := bne_iff_ne.mpr c30
                        by_cases c32 : ((rd_T52 l0 x9_1).f2) = 0
                        · rw [if_pos c32] at H
                          have c32b0 : (((rd_T52 l0 x9_1).f2) == 0) = true := beq_iff_eq.mpr c32
                          have c32b1 : (((rd_T52 l0 x9_1).f2) != 0) = false := bne_eq_false_iff_eq.mpr c32
                          clear c32
                          have H' := Aside0.mk H
                          clear H
                          have hcz33_0 : wc.cell? ⟨gb120, 0, none⟩ = some (.int .i64 ((rd_T52 l0 x9_1).f0)) := (blk_cell BK120.out 0).trans rfl
                          have hcz33_1 : wc.cell? ⟨gb120, 1, none⟩ = some (.int .i64 ((rd_T52 l0 x9_1).f1)) := (blk_cell BK120.out 1).trans rfl
                          have hcz33_2 : wc.cell? ⟨gb120, 2, none⟩ = some (.int .i64 ((rd_T52 l0 x9_1).f2)) := (blk_cell BK120.out 2).trans rfl
                          have hfz33_0 := blk_frozen BK120.out 0
                          have hfz33_1 := blk_frozen BK120.out 1
                          have hfz33_2 := blk_frozen BK120.out 2
                          go_wp2
                          go_roundg kj5
                          case measure => have := HK1.out; have := HJ5.out; omega
                          case rel => exact ⟨(wrap64 (x9_1 + 1)), (by first | rfl | (simp; done) | (simp [*]; done)), H', ⟨by have := HK1.out; have := HJ5.out; omega⟩, ⟨by repeat (first | (with_reducible first | exact HB.out | apply below_alloc | apply pw_below_drewN | apply below_drew1 | refine below_set ?_ GE120.out) | exact HB.out)⟩⟩
                        · rw [if_neg c32] at H
                          have c32b0 : (((rd_T52 l0 x9_1).f2) == 0) = false := beq_eq_false_iff_ne.mpr c32
                          have c32b1 : (((rd_T52 l0 x9_1).f2) != 0) = true := bne_iff_ne.mpr c32
                          obtain rfl := Option.some.inj H
                          have hcz34_0 : wc.cell? ⟨gb120, 0, none⟩ = some (.int .i64 ((rd_T52 l0 x9_1).f0)) := (blk_cell BK120.out 0).trans rfl
                          have hcz34_1 : wc.cell? ⟨gb120, 1, none⟩ = some (.int .i64 ((rd_T52 l0 x9_1).f1)) := (blk_cell BK120.out 1).trans rfl
                          have hcz34_2 : wc.cell? ⟨gb120, 2, none⟩ = some (.int .i64 ((rd_T52 l0 x9_1).f2)) := (blk_cell BK120.out 2).trans rfl
                          have hfz34_0 := blk_frozen BK120.out 0
                          have hfz34_1 := blk_frozen BK120.out 1
                          have hfz34_2 := blk_frozen BK120.out 2
                          go_wp2
                          go_ret
                          exact ⟨by first | rfl | (simp [errW_none, errW_some] <;> rfl) | (simp [*, errW_none, errW_some] <;> rfl), by repeat (first | (with_reducible first | exact HB.out | apply below_alloc | apply pw_below_drewN | apply below_drew1 | refine below_set ?_ GE120.out) | exact HB.out)⟩
          · rw [if_neg c5] at H
            exact absurd H (by simp)
        · rw [if_neg c4] at H
          exact absurd H (by simp)
      · rw [if_neg c3] at H
        have c3b0 : decide (x9_1 < (l0.length : Int)) = false := decide_eq_false c3
        clear c3
        replace H := Option.bind_eq_some_iff.mp H
        obtain ⟨t117, A350, H⟩ := H
        replace H : (if t117 = true then ((spec_l1In.f (l0.length : Int) 1 20).bind fun t118 => (some t118)) else (some false)) = some r := H
        have A35 := Aside0.mk A350
        clear A350
        by_cases c36 : t117 = true
        · subst c36
          have H1 : ((spec_l1In.f (l0.length : Int) 1 20).bind fun t118 => (some t118)) = some r := by rw [if_pos rfl] at H; exact H
          clear H
          have H := H1
          clear H1
          replace H := Option.bind_eq_some_iff.mp H
          obtain ⟨t118, A370, H⟩ := H
          replace H : (some t118) = some r := H
          have A37 := Aside0.mk A370
          clear A370
          obtain rfl := Option.some.inj H
          go_wp2_with (first | ((with_reducible refine gate_callee (f := 43) rfl ?_); refine goesL_ (some 58) rfl rfl Tryd.func43 (by kernel_rfl) rfl #[.int .i64 a1, .int .i64 1, .int .i64 4] rfl (by (try simp only [List.map_toArray, List.map_cons, List.map_nil]); first | done | rfl | (simp only [List.length_drop, List.length_take]; rfl)) ?_; (with_reducible refine (spec_l1In.calls a1 1 4 true _ A35.out).mono ?_); rintro e w' ⟨rfl, ⟨nd, rfl⟩⟩; refine ⟨_, rfl, ?_⟩) | (go_at_call 43; (with_reducible refine (spec_l1In.calls (l0.length : Int) 1 20 t118 _ A37.out).mono ?_); rintro e w' ⟨rfl, ⟨nd, rfl⟩⟩))
          go_ret
          exact ⟨by first | rfl | (simp [errW_none, errW_some] <;> rfl) | (simp [*, errW_none, errW_some] <;> rfl), by repeat (first | (with_reducible first | exact HB.out | apply below_alloc | apply pw_below_drewN | apply below_drew1) | exact HB.out)⟩
        · replace c36 := Bool.eq_false_iff.mpr c36
          subst c36
          have H1 : (some false) = some r := by rw [if_neg (show ¬ (false = true) by decide)] at H; exact H
          clear H
          have H := H1
          clear H1
          obtain rfl := Option.some.inj H
          go_wp2_with (first | ((with_reducible refine gate_callee (f := 43) rfl ?_); refine goesL_ (some 58) rfl rfl Tryd.func43 (by kernel_rfl) rfl #[.int .i64 a1, .int .i64 1, .int .i64 4] rfl (by (try simp only [List.map_toArray, List.map_cons, List.map_nil]); first | done | rfl | (simp only [List.length_drop, List.length_take]; rfl)) ?_; (with_reducible refine (spec_l1In.calls a1 1 4 false _ A35.out).mono ?_); rintro e w' ⟨rfl, ⟨nd, rfl⟩⟩; refine ⟨_, rfl, ?_⟩))
          go_ret
          exact ⟨by first | rfl | (simp [errW_none, errW_some] <;> rfl) | (simp [*, errW_none, errW_some] <;> rfl), by repeat (first | (with_reducible first | exact HB.out | apply below_alloc | apply pw_below_drewN | apply below_drew1) | exact HB.out)⟩

end Go.Proofs.YtbcphkblieeemaaDoor.P
