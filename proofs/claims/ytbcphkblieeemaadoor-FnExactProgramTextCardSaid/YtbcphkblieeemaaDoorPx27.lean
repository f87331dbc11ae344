-- PRINTED by print.py (a twelfth state) out of the translation. Not trusted: Lean checks it.
import Derived.Test.YtbcphkblieeemaaDoorPx0
import Derived.Test.YtbcphkblieeemaaDoorPx25
import Derived.Test.YtbcphkblieeemaaDoorPx26
namespace Go.Proofs.YtbcphkblieeemaaDoor.P
open Go.RowKit Go.Proofs.YtbcphkblieeemaaDoorW.PrintWords Go.Proofs.YtbcphkblieeemaaDoorW.PrintLast Go.Proofs.YtbcphkblieeemaaDoorW.PrintMore
attribute [local go_sem] max2_int min2_int max_two min_two max_three min_three max_four min_four   -- for this text's walks alone
set_option linter.unusedVariables false
set_option linter.unusedSimpArgs false

/-! ### impl_AreInstructions: function 36 -/
mutual
def impl_AreInstructions.j0 : Nat → List (S52) → Int → Bool → Option (Bool)
  | 0, _, _, _ => none
  | k + 1, x0, x1, x22 => if x22 = true then (some false) else (impl_AreInstructions.l0 k x0 x1 x0 (x0.length : Int) 0)
def impl_AreInstructions.l0 : Nat → List (S52) → Int → List (S52) → Int → Int → Option (Bool)
  | 0, _, _, _, _, _ => none
  | k + 1, x0, x1, x23, x24, x25 => if x25 < x24 then (if 0 ≤ x25 then (if x25 < (x23.length : Int) then (if ((rd_T52 x23 x25).f0) < 0 then (impl_AreInstructions.j2 k x0 x1 x23 x24 x25 true ((rd_T52 x23 x25).f0) ((rd_T52 x23 x25).f1) ((rd_T52 x23 x25).f2)) else (if ((rd_T52 x23 x25).f0) > 3 then (impl_AreInstructions.j2 k x0 x1 x23 x24 x25 true ((rd_T52 x23 x25).f0) ((rd_T52 x23 x25).f1) ((rd_T52 x23 x25).f2)) else (if ((rd_T52 x23 x25).f1) < 0 then (impl_AreInstructions.j2 k x0 x1 x23 x24 x25 true ((rd_T52 x23 x25).f0) ((rd_T52 x23 x25).f1) ((rd_T52 x23 x25).f2)) else (if ((rd_T52 x23 x25).f1) ≥ x1 then (impl_AreInstructions.j2 k x0 x1 x23 x24 x25 true ((rd_T52 x23 x25).f0) ((rd_T52 x23 x25).f1) ((rd_T52 x23 x25).f2)) else (if ((rd_T52 x23 x25).f2) < 0 then (impl_AreInstructions.j2 k x0 x1 x23 x24 x25 true ((rd_T52 x23 x25).f0) ((rd_T52 x23 x25).f1) ((rd_T52 x23 x25).f2)) else (impl_AreInstructions.j2 k x0 x1 x23 x24 x25 (decide (((rd_T52 x23 x25).f2) > (x0.length : Int))) ((rd_T52 x23 x25).f0) ((rd_T52 x23 x25).f1) ((rd_T52 x23 x25).f2))))))) else (none)) else (none)) else (some true)
def impl_AreInstructions.j2 : Nat → List (S52) → Int → List (S52) → Int → Int → Bool → Int → Int → Int → Option (Bool)
  | 0, _, _, _, _, _, _, _, _, _ => none
  | k + 1, x0, x1, x23, x24, x25, x59, x160000, x160001, x160002 => if x59 = true then (some false) else ((impl_usesCounter.f x160000).bind fun t160 => (if t160 = true then ((impl_usesTarget.f x160000).bind fun t161 => (if t161 = true then (impl_AreInstructions.l0 k x0 x1 x23 x24 (wrap64 (x25 + 1))) else (if x160002 = 0 then (impl_AreInstructions.l0 k x0 x1 x23 x24 (wrap64 (x25 + 1))) else (some false)))) else (if x160001 = 0 then ((impl_usesTarget.f x160000).bind fun t162 => (if t162 = true then (impl_AreInstructions.l0 k x0 x1 x23 x24 (wrap64 (x25 + 1))) else (if x160002 = 0 then (impl_AreInstructions.l0 k x0 x1 x23 x24 (wrap64 (x25 + 1))) else (some false)))) else (some false))))
end
def impl_AreInstructions.f (k : Nat) (l0 : List (S52)) (a1 : Int) : Option (Bool) := if a1 < 1 then (impl_AreInstructions.j0 k l0 a1 true) else (if a1 > 4 then (impl_AreInstructions.j0 k l0 a1 true) else (if (l0.length : Int) < 1 then (impl_AreInstructions.j0 k l0 a1 true) else (impl_AreInstructions.j0 k l0 a1 (decide ((l0.length : Int) > 20)))))
theorem impl_AreInstructions.mono_l : ∀ k, (∀ y0 y1 y2, LeO (impl_AreInstructions.j0 k y0 y1 y2) (impl_AreInstructions.j0 (k + 1) y0 y1 y2)) ∧ (∀ y0 y1 y2 y3 y4, LeO (impl_AreInstructions.l0 k y0 y1 y2 y3 y4) (impl_AreInstructions.l0 (k + 1) y0 y1 y2 y3 y4)) ∧ (∀ y0 y1 y2 y3 y4 y5 y6 y7 y8, LeO (impl_AreInstructions.j2 k y0 y1 y2 y3 y4 y5 y6 y7 y8) (impl_AreInstructions.j2 (k + 1) y0 y1 y2 y3 y4 y5 y6 y7 y8))
  | 0 => ⟨fun _ _ _ r h => by simp [impl_AreInstructions.j0] at h, fun _ _ _ _ _ r h => by simp [impl_AreInstructions.l0] at h, fun _ _ _ _ _ _ _ _ _ r h => by simp [impl_AreInstructions.j2] at h⟩
  | k + 1 => by
    obtain ⟨ih0, ih1, ih2⟩ := impl_AreInstructions.mono_l k
    refine ⟨?_, ?_, ?_⟩
    · intro y0 y1 y2
      unfold impl_AreInstructions.j0
      repeat' first
      | (with_reducible exact ih0 _ _ _)
      | (with_reducible exact ih1 _ _ _ _ _)
      | (with_reducible exact ih2 _ _ _ _ _ _ _ _ _)
      | (with_reducible exact LeO.refl _)
      | (with_reducible exact LeO.none _)
      | (with_reducible refine LeO.ite ?_ ?_)
      | (with_reducible refine LeO.bind ?_ (fun _ => ?_))
      | exact ih0 _ _ _
      | exact ih1 _ _ _ _ _
      | exact ih2 _ _ _ _ _ _ _ _ _
      | exact LeO.none _
      | refine LeO.ite ?_ ?_
      | refine LeO.bind ?_ (fun _ => ?_)
    · intro y0 y1 y2 y3 y4
      unfold impl_AreInstructions.l0
      repeat' first
      | (with_reducible exact ih0 _ _ _)
      | (with_reducible exact ih1 _ _ _ _ _)
      | (with_reducible exact ih2 _ _ _ _ _ _ _ _ _)
      | (with_reducible exact LeO.refl _)
      | (with_reducible exact LeO.none _)
      | (with_reducible refine LeO.ite ?_ ?_)
      | (with_reducible refine LeO.bind ?_ (fun _ => ?_))
      | exact ih0 _ _ _
      | exact ih1 _ _ _ _ _
      | exact ih2 _ _ _ _ _ _ _ _ _
      | exact LeO.none _
      | refine LeO.ite ?_ ?_
      | refine LeO.bind ?_ (fun _ => ?_)
    · intro y0 y1 y2 y3 y4 y5 y6 y7 y8
      unfold impl_AreInstructions.j2
      repeat' first
      | (with_reducible exact ih0 _ _ _)
      | (with_reducible exact ih1 _ _ _ _ _)
      | (with_reducible exact ih2 _ _ _ _ _ _ _ _ _)
      | (with_reducible exact LeO.refl _)
      | (with_reducible exact LeO.none _)
      | (with_reducible refine LeO.ite ?_ ?_)
      | (with_reducible refine LeO.bind ?_ (fun _ => ?_))
      | exact ih0 _ _ _
      | exact ih1 _ _ _ _ _
      | exact ih2 _ _ _ _ _ _ _ _ _
      | exact LeO.none _
      | refine LeO.ite ?_ ?_
      | refine LeO.bind ?_ (fun _ => ?_)
theorem impl_AreInstructions.mono : ∀ a0 a1 k, LeO (impl_AreInstructions.f k a0 a1) (impl_AreInstructions.f (k + 1) a0 a1) := by
  intro a0 a1 k
  obtain ⟨ih0, ih1, ih2⟩ := impl_AreInstructions.mono_l k
  unfold impl_AreInstructions.f
  repeat' first
      | (with_reducible exact ih0 _ _ _)
      | (with_reducible exact ih1 _ _ _ _ _)
      | (with_reducible exact ih2 _ _ _ _ _ _ _ _ _)
      | (with_reducible exact LeO.refl _)
      | (with_reducible exact LeO.none _)
      | (with_reducible refine LeO.ite ?_ ?_)
      | (with_reducible refine LeO.bind ?_ (fun _ => ?_))
      | exact ih0 _ _ _
      | exact ih1 _ _ _ _ _
      | exact ih2 _ _ _ _ _ _ _ _ _
      | exact LeO.none _
      | refine LeO.ite ?_ ?_
      | refine LeO.bind ?_ (fun _ => ?_)
set_option maxHeartbeats 8000000 in
set_option maxRecDepth 100000 in
theorem impl_AreInstructions.calls (k : Nat) (A0 : Option Addr) (c0 : Nat) (l0 : List (S52)) (a1 : Int) (r : Bool) (w : World) (hr0 : Kd.C k52 w A0 l0.length l0) (hc0 : l0.length ≤ c0) (h : impl_AreInstructions.f k l0 a1 = some r) :
    Calls Tryd.prog 36 #[.slice A0 l0.length c0, .int .i64 a1] w fun e w' => e = .returned (.bool r) ∧ Below w.heap.size w w' := by
  have hu52 := Tryd.underlying52
  have HR0 := Aside0.mk hr0
  have HC0 := Aside0.mk hc0
  clear hr0 hc0
  have HB := Aside0.mk (Below.refl w.heap.size w)
  have H : (if a1 < 1 then (impl_AreInstructions.j0 k l0 a1 true) else (if a1 > 4 then (impl_AreInstructions.j0 k l0 a1 true) else (if (l0.length : Int) < 1 then (impl_AreInstructions.j0 k l0 a1 true) else (impl_AreInstructions.j0 k l0 a1 (decide ((l0.length : Int) > 20)))))) = some r := h
  clear h
  have HC3 := Aside0.mk H
  clear H
  go_enter Tryd.func36, Tryd.ntmps36
  go_upto_region 1 with (fail)
  go_cut [22] (fun v22 wc => ∃ (kq : Nat) (x22_2 : Bool), v22 = .bool x22_2 ∧ Aside0 (impl_AreInstructions.j0 kq l0 a1 x22_2 = some r) ∧ Aside0 (kq ≤ k) ∧ Aside0 (Below w.heap.size w wc))
  case first =>
    have H := HC3.out
    clear HC3
    by_cases c4 : a1 < 1
    · rw [if_pos c4] at H
      have c4b0 : decide (a1 < 1) = true := decide_eq_true c4
      clear c4
      (first | rw [c4b0] | (simp only [i64_w, i32_w]; rw [c4b0]) | skip)
      have H' := Aside0.mk H
      clear H
      go_wp2
      go_meet
      case rel => exact ⟨_, (true), (by first | rfl | (simp; done) | (simp [*]; done)), H', ⟨by first | omega | exact Nat.le_refl _⟩, ⟨by repeat (first | (with_reducible first | exact HB.out | apply below_alloc | apply pw_below_drewN | apply below_drew1) | exact HB.out)⟩⟩
    · rw [if_neg c4] at H
      have c4b0 : decide (a1 < 1) = false := decide_eq_false c4
      clear c4
      (first | rw [c4b0] | (simp only [i64_w, i32_w]; rw [c4b0]) | skip)
      by_cases c5 : a1 > 4
      · rw [if_pos c5] at H
        have c5b0 : decide (4 < a1) = true := decide_eq_true c5
        clear c5
        have H' := Aside0.mk H
        clear H
        go_wp2
        go_meet
        case rel => exact ⟨_, (true), (by first | rfl | (simp; done) | (simp [*]; done)), H', ⟨by first | omega | exact Nat.le_refl _⟩, ⟨by repeat (first | (with_reducible first | exact HB.out | apply below_alloc | apply pw_below_drewN | apply below_drew1) | exact HB.out)⟩⟩
      · rw [if_neg c5] at H
        have c5b0 : decide (4 < a1) = false := decide_eq_false c5
        clear c5
        by_cases c6 : (l0.length : Int) < 1
        · rw [if_pos c6] at H
          have c6b0 : decide ((l0.length : Int) < 1) = true := decide_eq_true c6
          have c6b1 : decide (l0.length < 1) = true := decide_eq_true (by omega)
          clear c6
          have H' := Aside0.mk H
          clear H
          go_wp2
          go_meet
          case rel => exact ⟨_, (true), (by first | rfl | (simp; done) | (simp [*]; done)), H', ⟨by first | omega | exact Nat.le_refl _⟩, ⟨by repeat (first | (with_reducible first | exact HB.out | apply below_alloc | apply pw_below_drewN | apply below_drew1) | exact HB.out)⟩⟩
        · rw [if_neg c6] at H
          have c6b0 : decide ((l0.length : Int) < 1) = false := decide_eq_false c6
          have c6b1 : decide (l0.length < 1) = false := decide_eq_false (by omega)
          clear c6
          have H' := Aside0.mk H
          clear H
          go_wp2
          go_meet
          case rel => exact ⟨_, (decide ((l0.length : Int) > 20)), (by first | rfl | (simp; done) | (simp [*]; done)), H', ⟨by first | omega | exact Nat.le_refl _⟩, ⟨by repeat (first | (with_reducible first | exact HB.out | apply below_alloc | apply pw_below_drewN | apply below_drew1) | exact HB.out)⟩⟩
  case rest =>
    clear HC3
    try clear p2
    try clear c3
    try clear c4
    try clear c4b0
    try clear c5
    try clear c5b0
    try clear c6
    try clear c6b0
    try clear c6b1
    obtain ⟨kq, x22_2, rfl, HA, HJ2, HB⟩ := hcut
    cases kq with
    | zero => exact absurd HA.out (by simp [impl_AreInstructions.j0])
    | succ kj2 =>
      have H := HA.out
      clear HA
      simp only [impl_AreInstructions.j0] at H
      by_cases c7 : x22_2 = true
      · subst c7
        have H1 : (some false) = some r := by rw [if_pos rfl] at H; exact H
        clear H
        have H := H1
        clear H1
        obtain rfl := Option.some.inj H
        go_wp2
        go_ret
        exact ⟨by first | rfl | (simp [errW_none, errW_some] <;> rfl) | (simp [*, errW_none, errW_some] <;> rfl), by repeat (first | (with_reducible first | exact HB.out | apply below_alloc | apply pw_below_drewN | apply below_drew1) | exact HB.out)⟩
      · replace c7 := Bool.eq_false_iff.mpr c7
        subst c7
        have H1 : (impl_AreInstructions.l0 kj2 l0 a1 l0 (l0.length : Int) 0) = some r := by rw [if_neg (show ¬ (false = true) by decide)] at H; exact H
        clear H
        have H := H1
        clear H1
        have H' := Aside0.mk H
        clear H
        go_wp2
        go_loopg [25] kj2 (fun kq v25 w' => ∃ (x25_2 : Int), v25 = .int .i64 x25_2 ∧ Aside0 (impl_AreInstructions.l0 kq l0 a1 l0 (l0.length : Int) x25_2 = some r) ∧ Aside0 (kq ≤ kj2) ∧ Aside0 (Below w.heap.size w w'))
        case atStart => exact ⟨(0), (by first | rfl | (simp; done) | (simp [*]; done)), H', ⟨Nat.le_refl _⟩, ⟨by repeat (first | (with_reducible first | exact HB.out | apply below_alloc | apply pw_below_drewN | apply below_drew1) | exact HB.out)⟩⟩
        case round =>
          clear H'
          try clear p2
          try clear c3
          try clear c4
          try clear c4b0
          try clear c5
          try clear c5b0
          try clear c6
          try clear c6b0
          try clear c6b1
          try clear c7
          try clear p2
          obtain ⟨x25_2, rfl, HA, HK2, HB⟩ := hrel
          cases gk with
          | zero => exact absurd HA.out (by simp [impl_AreInstructions.l0])
          | succ k2 =>
            have H := HA.out
            clear HA
            simp only [impl_AreInstructions.l0] at H
            by_cases c8 : x25_2 < (l0.length : Int)
            · rw [if_pos c8] at H
              have c8b0 : decide (x25_2 < (l0.length : Int)) = true := decide_eq_true c8
              clear c8
              by_cases c9 : 0 ≤ x25_2
              · rw [if_pos c9] at H
                have c9b0 : decide (0 ≤ x25_2) = true := decide_eq_true c9
                clear c9
                by_cases c10 : x25_2 < (l0.length : Int)
                · rw [if_pos c10] at H
                  have c10b0 : decide (x25_2 < (l0.length : Int)) = true := decide_eq_true c10
                  clear c10
                  have HC11 := Aside0.mk H
                  clear H
                  have p158 : 0 ≤ (x25_2 : Int) := of_decide_eq_true (by first | (with_reducible assumption) | assumption)
                  have q158 : x25_2 < (l0.length : Int) := of_decide_eq_true (by first | (with_reducible assumption) | assumption)
                  obtain ⟨ad158, e158, hx158_0, hx158_1, hx158_2⟩ := at_T52 HR0.out x25_2 p158 q158
                  cases e158
                  replace hx158_0 := (HB.out.cell (World.block_lt_of_cell? w _ hx158_0)).trans hx158_0
                  replace hx158_1 := (HB.out.cell (World.block_lt_of_cell? w _ hx158_1)).trans hx158_1
                  replace hx158_2 := (HB.out.cell (World.block_lt_of_cell? w _ hx158_2)).trans hx158_2
                  replace p158 := eq_true p158
                  replace q158 := eq_true q158
                  go_upto_region 6 with (first | ((with_reducible refine gate_dst (N := 6) rfl ?_); (try (refine gate_guard (by rfl) ?_; dsimp only)); refine box_event ?hg (N := 6) ?hd (cs := #[.int .i64 0, .int .i64 0, .int .i64 0]) (t := 52) ?hr ?_; (case hd => rfl); (case hg => rfl); (case hr => first | (go_simp; done) | (go_simp; rfl)); intro gb159 hg w12 hbox hb; have n0_ := Aside0.mk (below_step (by repeat (first | (with_reducible first | exact HB.out | apply below_alloc | apply pw_below_drewN | apply below_drew1) | exact HB.out)) hb); have n1_ := Aside0.mk (hbox); have n2_ := Aside0.mk ((by rw [hg]; exact (below_size (by repeat (first | (with_reducible first | exact HB.out | apply below_alloc | apply pw_below_drewN | apply below_drew1) | exact HB.out))) : w.heap.size ≤ gb159)); have n3_ := Aside0.mk ((by rw [hg]; exact (below_size (by repeat (first | (with_reducible first | exact HB.out | apply below_alloc | apply pw_below_drewN | apply below_drew1) | exact HB.out))) : w.heap.size ≤ gb159)); clear HB; have HB := n0_; have BK159 := n1_; have GW159 := n2_; have GE159 := n3_; clear n0_ n1_ n2_ n3_; clear hb hbox hg; have hcz13_0 : w12.cell? ⟨gb159, 0, none⟩ = some (.int .i64 0) := (blk_cell BK159.out 0).trans rfl; have hcz13_1 : w12.cell? ⟨gb159, 1, none⟩ = some (.int .i64 0) := (blk_cell BK159.out 1).trans rfl; have hcz13_2 : w12.cell? ⟨gb159, 2, none⟩ = some (.int .i64 0) := (blk_cell BK159.out 2).trans rfl; have hfz13_0 := blk_frozen BK159.out 0; have hfz13_1 := blk_frozen BK159.out 1; have hfz13_2 := blk_frozen BK159.out 2))
                  (try simp only [Act.put, List.setIfInBounds_toArray, List.set_cons_zero, List.set_cons_succ])
                  go_cut [59] (fun v59 wc => ∃ (kq : Nat) (x59_10 : Bool), v59 = .bool x59_10 ∧ Aside0 (impl_AreInstructions.j2 kq l0 a1 l0 (l0.length : Int) x25_2 x59_10 ((rd_T52 l0 x25_2).f0) ((rd_T52 l0 x25_2).f1) ((rd_T52 l0 x25_2).f2) = some r) ∧ Aside0 (kq ≤ k2) ∧ Aside0 (wc.heap[gb159]? = some (.cells #[.int .i64 ((rd_T52 l0 x25_2).f0), .int .i64 ((rd_T52 l0 x25_2).f1), .int .i64 ((rd_T52 l0 x25_2).f2)] 52 (0, 0))) ∧ Aside0 (Below w.heap.size w wc))
                  case first =>
                    have H := HC11.out
                    clear HC11
                    by_cases c14 : ((rd_T52 l0 x25_2).f0) < 0
                    · rw [if_pos c14] at H
                      have c14b0 : decide (((rd_T52 l0 x25_2).f0) < 0) = true := decide_eq_true c14
                      clear c14
                      (first | rw [c14b0] | (simp only [i64_w, i32_w]; rw [c14b0]) | skip)
                      have H' := Aside0.mk H
                      clear H
                      have hcz15_0 : w12.cell? ⟨gb159, 0, none⟩ = some (.int .i64 0) := (blk_cell BK159.out 0).trans rfl
                      have hcz15_1 : w12.cell? ⟨gb159, 1, none⟩ = some (.int .i64 0) := (blk_cell BK159.out 1).trans rfl
                      have hcz15_2 : w12.cell? ⟨gb159, 2, none⟩ = some (.int .i64 0) := (blk_cell BK159.out 2).trans rfl
                      have hfz15_0 := blk_frozen BK159.out 0
                      have hfz15_1 := blk_frozen BK159.out 1
                      have hfz15_2 := blk_frozen BK159.out 2
                      go_wp2
                      go_meet
                      case rel => exact ⟨_, (true), (by first | rfl | (simp; done) | (simp [*]; done)), H', ⟨by have := HJ2.out; have := HK2.out; first | omega | exact Nat.le_refl _⟩, ⟨by (with_reducible repeat (first | refine blk_drewN ?_ _ | refine blk_drew ?_ | refine blk_alloc ?_ _)); refine blk_put (cs := #[.int .i64 ((rd_T52 l0 x25_2).f0), .int .i64 ((rd_T52 l0 x25_2).f1), .int .i64 0]) ?_ 2 _ rfl; (with_reducible repeat (first | refine blk_drewN ?_ _ | refine blk_drew ?_ | refine blk_alloc ?_ _)); refine blk_put (cs := #[.int .i64 ((rd_T52 l0 x25_2).f0), .int .i64 0, .int .i64 0]) ?_ 1 _ rfl; (with_reducible repeat (first | refine blk_drewN ?_ _ | refine blk_drew ?_ | refine blk_alloc ?_ _)); refine blk_put (cs := #[.int .i64 0, .int .i64 0, .int .i64 0]) ?_ 0 _ rfl; (with_reducible repeat (first | refine blk_drewN ?_ _ | refine blk_drew ?_ | refine blk_alloc ?_ _)); exact BK159.out⟩, ⟨by repeat (first | (with_reducible first | exact HB.out | apply below_alloc | apply pw_below_drewN | apply below_drew1 | refine below_set ?_ GE159.out) | exact HB.out)⟩⟩
                    · rw [if_neg c14] at H
                      have c14b0 : decide (((rd_T52 l0 x25_2).f0) < 0) = false := decide_eq_false c14
                      clear c14
                      (first | rw [c14b0] | (simp only [i64_w, i32_w]; rw [c14b0]) | skip)
                      by_cases c16 : ((rd_T52 l0 x25_2).f0) > 3
                      · rw [if_pos c16] at H
                        have c16b0 : decide (3 < ((rd_T52 l0 x25_2).f0)) = true := decide_eq_true c16
                        clear c16
                        have H' := Aside0.mk H
                        clear H
                        have hcz17_0 : w12.cell? ⟨gb159, 0, none⟩ = some (.int .i64 0) := (blk_cell BK159.out 0).trans rfl
                        have hcz17_1 : w12.cell? ⟨gb159, 1, none⟩ = some (.int .i64 0) := (blk_cell BK159.out 1).trans rfl
                        have hcz17_2 : w12.cell? ⟨gb159, 2, none⟩ = some (.int .i64 0) := (blk_cell BK159.out 2).trans rfl
                        have hfz17_0 := blk_frozen BK159.out 0
                        have hfz17_1 := blk_frozen BK159.out 1
                        have hfz17_2 := blk_frozen BK159.out 2
                        go_wp2
                        go_meet
                        case rel => exact ⟨_, (true), (by first | rfl | (simp; done) | (simp [*]; done)), H', ⟨by have := HJ2.out; have := HK2.out; first | omega | exact Nat.le_refl _⟩, ⟨by (with_reducible repeat (first | refine blk_drewN ?_ _ | refine blk_drew ?_ | refine blk_alloc ?_ _)); refine blk_put (cs := #[.int .i64 ((rd_T52 l0 x25_2).f0), .int .i64 ((rd_T52 l0 x25_2).f1), .int .i64 0]) ?_ 2 _ rfl; (with_reducible repeat (first | refine blk_drewN ?_ _ | refine blk_drew ?_ | refine blk_alloc ?_ _)); refine blk_put (cs := #[.int .i64 ((rd_T52 l0 x25_2).f0), .int .i64 0, .int .i64 0]) ?_ 1 _ rfl; (with_reducible repeat (first | refine blk_drewN ?_ _ | refine blk_drew ?_ | refine blk_alloc ?_ _)); refine blk_put (cs := #[.int .i64 0, .int .i64 0, .int .i64 0]) ?_ 0 _ rfl; (with_reducible repeat (first | refine blk_drewN ?_ _ | refine blk_drew ?_ | refine blk_alloc ?_ _)); exact BK159.out⟩, ⟨by repeat (first | (with_reducible first | exact HB.out | apply below_alloc | apply pw_below_drewN | apply below_drew1 | refine below_set ?_ GE159.out) | exact HB.out)⟩⟩
                      · rw [if_neg c16] at H
                        have c16b0 : decide (3 < ((rd_T52 l0 x25_2).f0)) = false := decide_eq_false c16
                        clear c16
                        by_cases c18 : ((rd_T52 l0 x25_2).f1) < 0
                        · rw [if_pos c18] at H
                          have c18b0 : decide (((rd_T52 l0 x25_2).f1) < 0) = true := decide_eq_true c18
                          clear c18
                          have H' := Aside0.mk H
                          clear H
                          have hcz19_0 : w12.cell? ⟨gb159, 0, none⟩ = some (.int .i64 0) := (blk_cell BK159.out 0).trans rfl
                          have hcz19_1 : w12.cell? ⟨gb159, 1, none⟩ = some (.int .i64 0) := (blk_cell BK159.out 1).trans rfl
                          have hcz19_2 : w12.cell? ⟨gb159, 2, none⟩ = some (.int .i64 0) := (blk_cell BK159.out 2).trans rfl
                          have hfz19_0 := blk_frozen BK159.out 0
                          have hfz19_1 := blk_frozen BK159.out 1
                          have hfz19_2 := blk_frozen BK159.out 2
                          go_wp2
                          go_meet
                          case rel => exact ⟨_, (true), (by first | rfl | (simp; done) | (simp [*]; done)), H', ⟨by have := HJ2.out; have := HK2.out; first | omega | exact Nat.le_refl _⟩, ⟨by (with_reducible repeat (first | refine blk_drewN ?_ _ | refine blk_drew ?_ | refine blk_alloc ?_ _)); refine blk_put (cs := #[.int .i64 ((rd_T52 l0 x25_2).f0), .int .i64 ((rd_T52 l0 x25_2).f1), .int .i64 0]) ?_ 2 _ rfl; (with_reducible repeat (first | refine blk_drewN ?_ _ | refine blk_drew ?_ | refine blk_alloc ?_ _)); refine blk_put (cs := #[.int .i64 ((rd_T52 l0 x25_2).f0), .int .i64 0, .int .i64 0]) ?_ 1 _ rfl; (with_reducible repeat (first | refine blk_drewN ?_ _ | refine blk_drew ?_ | refine blk_alloc ?_ _)); refine blk_put (cs := #[.int .i64 0, .int .i64 0, .int .i64 0]) ?_ 0 _ rfl; (with_reducible repeat (first | refine blk_drewN ?_ _ | refine blk_drew ?_ | refine blk_alloc ?_ _)); exact BK159.out⟩, ⟨by repeat (first | (with_reducible first | exact HB.out | apply below_alloc | apply pw_below_drewN | apply below_drew1 | refine below_set ?_ GE159.out) | exact HB.out)⟩⟩
                        · rw [if_neg c18] at H
                          have c18b0 : decide (((rd_T52 l0 x25_2).f1) < 0) = false := decide_eq_false c18
                          clear c18
                          by_cases c20 : ((rd_T52 l0 x25_2).f1) ≥ a1
                          · rw [if_pos c20] at H
                            have c20b0 : decide (a1 ≤ ((rd_T52 l0 x25_2).f1)) = true := decide_eq_true c20
                            clear c20
                            have H' := Aside0.mk H
                            clear H
                            have hcz21_0 : w12.cell? ⟨gb159, 0, none⟩ = some (.int .i64 0) := (blk_cell BK159.out 0).trans rfl
                            have hcz21_1 : w12.cell? ⟨gb159, 1, none⟩ = some (.int .i64 0) := (blk_cell BK159.out 1).trans rfl
                            have hcz21_2 : w12.cell? ⟨gb159, 2, none⟩ = some (.int .i64 0) := (blk_cell BK159.out 2).trans rfl
                            have hfz21_0 := blk_frozen BK159.out 0
                            have hfz21_1 := blk_frozen BK159.out 1
                            have hfz21_2 := blk_frozen BK159.out 2
                            go_wp2
                            go_meet
                            case rel => exact ⟨_, (true), (by first | rfl | (simp; done) | (simp [*]; done)), H', ⟨by have := HJ2.out; have := HK2.out; first | omega | exact Nat.le_refl _⟩, ⟨by (with_reducible repeat (first | refine blk_drewN ?_ _ | refine blk_drew ?_ | refine blk_alloc ?_ _)); refine blk_put (cs := #[.int .i64 ((rd_T52 l0 x25_2).f0), .int .i64 ((rd_T52 l0 x25_2).f1), .int .i64 0]) ?_ 2 _ rfl; (with_reducible repeat (first | refine blk_drewN ?_ _ | refine blk_drew ?_ | refine blk_alloc ?_ _)); refine blk_put (cs := #[.int .i64 ((rd_T52 l0 x25_2).f0), .int .i64 0, .int .i64 0]) ?_ 1 _ rfl; (with_reducible repeat (first | refine blk_drewN ?_ _ | refine blk_drew ?_ | refine blk_alloc ?_ _)); refine blk_put (cs := #[.int .i64 0, .int .i64 0, .int .i64 0]) ?_ 0 _ rfl; (with_reducible repeat (first | refine blk_drewN ?_ _ | refine blk_drew ?_ | refine blk_alloc ?_ _)); exact BK159.out⟩, ⟨by repeat (first | (with_reducible first | exact HB.out | apply below_alloc | apply pw_below_drewN | apply below_drew1 | refine below_set ?_ GE159.out) | exact HB.out)⟩⟩
                          · rw [if_neg c20] at H
                            have c20b0 : decide (a1 ≤ ((rd_T52 l0 x25_2).f1)) = false := decide_eq_false c20
                            clear c20
                            by_cases c22 : ((rd_T52 l0 x25_2).f2) < 0
                            · rw [if_pos c22] at H
                              have c22b0 : decide (((rd_T52 l0 x25_2).f2) < 0) = true := decide_eq_true c22
                              clear c22
                              have H' := Aside0.mk H
                              clear H
                              have hcz23_0 : w12.cell? ⟨gb159, 0, none⟩ = some (.int .i64 0) := (blk_cell BK159.out 0).trans rfl
                              have hcz23_1 : w12.cell? ⟨gb159, 1, none⟩ = some (.int .i64 0) := (blk_cell BK159.out 1).trans rfl
                              have hcz23_2 : w12.cell? ⟨gb159, 2, none⟩ = some (.int .i64 0) := (blk_cell BK159.out 2).trans rfl
                              have hfz23_0 := blk_frozen BK159.out 0
                              have hfz23_1 := blk_frozen BK159.out 1
                              have hfz23_2 := blk_frozen BK159.out 2
                              go_wp2
                              go_meet
                              case rel => exact ⟨_, (true), (by first | rfl | (simp; done) | (simp [*]; done)), H', ⟨by have := HJ2.out; have := HK2.out; first | omega | exact Nat.le_refl _⟩, ⟨by (with_reducible repeat (first | refine blk_drewN ?_ _ | refine blk_drew ?_ | refine blk_alloc ?_ _)); refine blk_put (cs := #[.int .i64 ((rd_T52 l0 x25_2).f0), .int .i64 ((rd_T52 l0 x25_2).f1), .int .i64 0]) ?_ 2 _ rfl; (with_reducible repeat (first | refine blk_drewN ?_ _ | refine blk_drew ?_ | refine blk_alloc ?_ _)); refine blk_put (cs := #[.int .i64 ((rd_T52 l0 x25_2).f0), .int .i64 0, .int .i64 0]) ?_ 1 _ rfl; (with_reducible repeat (first | refine blk_drewN ?_ _ | refine blk_drew ?_ | refine blk_alloc ?_ _)); refine blk_put (cs := #[.int .i64 0, .int .i64 0, .int .i64 0]) ?_ 0 _ rfl; (with_reducible repeat (first | refine blk_drewN ?_ _ | refine blk_drew ?_ | refine blk_alloc ?_ _)); exact BK159.out⟩, ⟨by repeat (first | (with_reducible first | exact HB.out | apply below_alloc | apply pw_below_drewN | apply below_drew1 | refine below_set ?_ GE159.out) | exact HB.out)⟩⟩
                            · rw [if_neg c22] at H
                              have c22b0 : decide (((rd_T52 l0 x25_2).f2) < 0) = false := decide_eq_false c22
                              clear c22
                              have H' := Aside0.mk H
                              clear H
                              have hcz24_0 : w12.cell? ⟨gb159, 0, none⟩ = some (.int .i64 0) := (blk_cell BK159.out 0).trans rfl
                              have hcz24_1 : w12.cell? ⟨gb159, 1, none⟩ = some (.int .i64 0) := (blk_cell BK159.out 1).trans rfl
                              have hcz24_2 : w12.cell? ⟨gb159, 2, none⟩ = some (.int .i64 0) := (blk_cell BK159.out 2).trans rfl
                              have hfz24_0 := blk_frozen BK159.out 0
                              have hfz24_1 := blk_frozen BK159.out 1
                              have hfz24_2 := blk_frozen BK159.out 2
                              go_wp2
                              go_meet
                              case rel => exact ⟨_, (decide (((rd_T52 l0 x25_2).f2) > (l0.length : Int))), (by first | rfl | (simp; done) | (simp [*]; done)), H', ⟨by have := HJ2.out; have := HK2.out; first | omega | exact Nat.le_refl _⟩, ⟨by (with_reducible repeat (first | refine blk_drewN ?_ _ | refine blk_drew ?_ | refine blk_alloc ?_ _)); refine blk_put (cs := #[.int .i64 ((rd_T52 l0 x25_2).f0), .int .i64 ((rd_T52 l0 x25_2).f1), .int .i64 0]) ?_ 2 _ rfl; (with_reducible repeat (first | refine blk_drewN ?_ _ | refine blk_drew ?_ | refine blk_alloc ?_ _)); refine blk_put (cs := #[.int .i64 ((rd_T52 l0 x25_2).f0), .int .i64 0, .int .i64 0]) ?_ 1 _ rfl; (with_reducible repeat (first | refine blk_drewN ?_ _ | refine blk_drew ?_ | refine blk_alloc ?_ _)); refine blk_put (cs := #[.int .i64 0, .int .i64 0, .int .i64 0]) ?_ 0 _ rfl; (with_reducible repeat (first | refine blk_drewN ?_ _ | refine blk_drew ?_ | refine blk_alloc ?_ _)); exact BK159.out⟩, ⟨by repeat (first | (with_reducible first | exact HB.out | apply below_alloc | apply pw_below_drewN | apply below_drew1 | refine below_set ?_ GE159.out) | exact HB.out)⟩⟩
                  case rest =>
                    clear HC11
                    try clear c1
                    try clear p1
                    try clear q1
                    try clear hx1
                    try clear c2
                    try clear p2
                    try clear c3
                    try clear c4
                    try clear c4b0
                    try clear c5
                    try clear c5b0
                    try clear c6
                    try clear c6b0
                    try clear c6b1
                    try clear c7
                    try clear c8
                    try clear c8b0
                    try clear c9
                    try clear c9b0
                    try clear c10
                    try clear c10b0
                    try clear c14
                    try clear c14b0
                    try clear p15
                    try clear q15
                    try clear hx15
                    try clear c16
                    try clear c16b0
                    try clear c18
                    try clear c18b0
                    try clear c20
                    try clear c20b0
                    try clear c22
                    try clear c22b0
                    try clear hcz13_0
                    try clear hcz13_1
                    try clear hcz13_2
                    try clear hcz15_0
                    try clear hcz15_1
                    try clear hcz15_2
                    try clear hcz17_0
                    try clear hcz17_1
                    try clear hcz17_2
                    try clear hcz19_0
                    try clear hcz19_1
                    try clear hcz19_2
                    try clear hcz21_0
                    try clear hcz21_1
                    try clear hcz21_2
                    try clear hcz23_0
                    try clear hcz23_1
                    try clear hcz23_2
                    try clear hcz24_0
                    try clear hcz24_1
                    try clear hcz24_2
                    try clear hfz13_0
                    try clear hfz13_1
                    try clear hfz13_2
                    try clear hfz15_0
                    try clear hfz15_1
                    try clear hfz15_2
                    try clear hfz17_0
                    try clear hfz17_1
                    try clear hfz17_2
                    try clear hfz19_0
                    try clear hfz19_1
                    try clear hfz19_2
                    try clear hfz21_0
                    try clear hfz21_1
                    try clear hfz21_2
                    try clear hfz23_0
                    try clear hfz23_1
                    try clear hfz23_2
                    try clear hfz24_0
                    try clear hfz24_1
                    try clear hfz24_2
                    try clear hx158_0
                    try clear hx158_1
                    try clear hx158_2
                    try clear p158
                    try clear p2
                    try clear q158
                    obtain ⟨kq, x59_10, rfl, HA, HJ10, BK159, HB⟩ := hcut
                    cases kq with
                    | zero => exact absurd HA.out (by simp [impl_AreInstructions.j2])
                    | succ kj10 =>
                      have H := HA.out
                      clear HA
                      simp only [impl_AreInstructions.j2] at H
                      by_cases c25 : x59_10 = true
                      · subst c25
                        have H1 : (some false) = some r := by rw [if_pos rfl] at H; exact H
                        clear H
                        have H := H1
                        clear H1
                        obtain rfl := Option.some.inj H
                        go_wp2
                        go_ret
                        exact ⟨by first | rfl | (simp [errW_none, errW_some] <;> rfl) | (simp [*, errW_none, errW_some] <;> rfl), by repeat (first | (with_reducible first | exact HB.out | apply below_alloc | apply pw_below_drewN | apply below_drew1 | refine below_set ?_ GE159.out) | exact HB.out)⟩
                      · replace c25 := Bool.eq_false_iff.mpr c25
                        subst c25
                        have H1 : ((impl_usesCounter.f ((rd_T52 l0 x25_2).f0)).bind fun t160 => (if t160 = true then ((impl_usesTarget.f ((rd_T52 l0 x25_2).f0)).bind fun t161 => (if t161 = true then (impl_AreInstructions.l0 kj10 l0 a1 l0 (l0.length : Int) (wrap64 (x25_2 + 1))) else (if ((rd_T52 l0 x25_2).f2) = 0 then (impl_AreInstructions.l0 kj10 l0 a1 l0 (l0.length : Int) (wrap64 (x25_2 + 1))) else (some false)))) else (if ((rd_T52 l0 x25_2).f1) = 0 then ((impl_usesTarget.f ((rd_T52 l0 x25_2).f0)).bind fun t162 => (if t162 = true then (impl_AreInstructions.l0 kj10 l0 a1 l0 (l0.length : Int) (wrap64 (x25_2 + 1))) else (if ((rd_T52 l0 x25_2).f2) = 0 then (impl_AreInstructions.l0 kj10 l0 a1 l0 (l0.length : Int) (wrap64 (x25_2 + 1))) else (some false)))) else (some false)))) = some r := by rw [if_neg (show ¬ (false = true) by decide)] at H; exact H
                        clear H
                        have H := H1
                        clear H1
                        replace H := Option.bind_eq_some_iff.mp H
                        obtain ⟨t160, A260, H⟩ := H
                        replace H : (if t160 = true then ((impl_usesTarget.f ((rd_T52 l0 x25_2).f0)).bind fun t161 => (if t161 = true then (impl_AreInstructions.l0 kj10 l0 a1 l0 (l0.length : Int) (wrap64 (x25_2 + 1))) else (if ((rd_T52 l0 x25_2).f2) = 0 then (impl_AreInstructions.l0 kj10 l0 a1 l0 (l0.length : Int) (wrap64 (x25_2 + 1))) else (some false)))) else (if ((rd_T52 l0 x25_2).f1) = 0 then ((impl_usesTarget.f ((rd_T52 l0 x25_2).f0)).bind fun t162 => (if t162 = true then (impl_AreInstructions.l0 kj10 l0 a1 l0 (l0.length : Int) (wrap64 (x25_2 + 1))) else (if ((rd_T52 l0 x25_2).f2) = 0 then (impl_AreInstructions.l0 kj10 l0 a1 l0 (l0.length : Int) (wrap64 (x25_2 + 1))) else (some false)))) else (some false))) = some r := H
                        have A26 := Aside0.mk A260
                        clear A260
                        by_cases c27 : t160 = true
                        · subst c27
                          have H1 : ((impl_usesTarget.f ((rd_T52 l0 x25_2).f0)).bind fun t161 => (if t161 = true then (impl_AreInstructions.l0 kj10 l0 a1 l0 (l0.length : Int) (wrap64 (x25_2 + 1))) else (if ((rd_T52 l0 x25_2).f2) = 0 then (impl_AreInstructions.l0 kj10 l0 a1 l0 (l0.length : Int) (wrap64 (x25_2 + 1))) else (some false)))) = some r := by rw [if_pos rfl] at H; exact H
                          clear H
                          have H := H1
                          clear H1
                          replace H := Option.bind_eq_some_iff.mp H
                          obtain ⟨t161, A280, H⟩ := H
                          replace H : (if t161 = true then (impl_AreInstructions.l0 kj10 l0 a1 l0 (l0.length : Int) (wrap64 (x25_2 + 1))) else (if ((rd_T52 l0 x25_2).f2) = 0 then (impl_AreInstructions.l0 kj10 l0 a1 l0 (l0.length : Int) (wrap64 (x25_2 + 1))) else (some false))) = some r := H
                          have A28 := Aside0.mk A280
                          clear A280
                          by_cases c29 : t161 = true
                          · subst c29
                            have H1 : (impl_AreInstructions.l0 kj10 l0 a1 l0 (l0.length : Int) (wrap64 (x25_2 + 1))) = some r := by rw [if_pos rfl] at H; exact H
                            clear H
                            have H := H1
                            clear H1
                            have H' := Aside0.mk H
                            clear H
                            have hcz30_0 : wc.cell? ⟨gb159, 0, none⟩ = some (.int .i64 ((rd_T52 l0 x25_2).f0)) := (blk_cell BK159.out 0).trans rfl
                            have hcz30_1 : wc.cell? ⟨gb159, 1, none⟩ = some (.int .i64 ((rd_T52 l0 x25_2).f1)) := (blk_cell BK159.out 1).trans rfl
                            have hcz30_2 : wc.cell? ⟨gb159, 2, none⟩ = some (.int .i64 ((rd_T52 l0 x25_2).f2)) := (blk_cell BK159.out 2).trans rfl
                            have hfz30_0 := blk_frozen BK159.out 0
                            have hfz30_1 := blk_frozen BK159.out 1
                            have hfz30_2 := blk_frozen BK159.out 2
                            go_wp2_with (first | ((with_reducible refine gate_callee (f := 37) rfl ?_); refine goesL_ (some 62) rfl rfl Tryd.func37 (by kernel_rfl) rfl #[.int .i64 ((rd_T52 l0 x25_2).f0)] rfl (by (try simp only [List.map_toArray, List.map_cons, List.map_nil]); first | done | rfl | (simp only [List.length_drop, List.length_take]; rfl)) ?_; (with_reducible refine (impl_usesCounter.calls ((rd_T52 l0 x25_2).f0) true _ A26.out).mono ?_); rintro e w' ⟨rfl, ⟨nd, rfl⟩⟩; refine ⟨_, rfl, ?_⟩) | (go_at_call 38; (with_reducible refine (impl_usesTarget.calls ((rd_T52 l0 x25_2).f0) true _ A28.out).mono ?_); rintro e w' ⟨rfl, ⟨nd, rfl⟩⟩))
                            go_roundg kj10
                            case measure => have := HJ2.out; have := HK2.out; have := HJ10.out; omega
                            case rel => exact ⟨(wrap64 (x25_2 + 1)), (by first | rfl | (simp; done) | (simp [*]; done)), H', ⟨by have := HJ2.out; have := HK2.out; have := HJ10.out; omega⟩, ⟨by repeat (first | (with_reducible first | exact HB.out | apply below_alloc | apply pw_below_drewN | apply below_drew1 | refine below_set ?_ GE159.out) | exact HB.out)⟩⟩
                          · replace c29 := Bool.eq_false_iff.mpr c29
                            subst c29
                            have H1 : (if ((rd_T52 l0 x25_2).f2) = 0 then (impl_AreInstructions.l0 kj10 l0 a1 l0 (l0.length : Int) (wrap64 (x25_2 + 1))) else (some false)) = some r := by rw [if_neg (show ¬ (false = true) by decide)] at H; exact H
                            clear H
                            have H := H1
                            clear H1
                            by_cases c31 : ((rd_T52 l0 x25_2).f2) = 0
                            · rw [if_pos c31] at H
                              have c31b0 : (((rd_T52 l0 x25_2).f2) == 0) = true := beq_iff_eq.mpr c31
                              have c31b1 : (((rd_T52 l0 x25_2).f2) != 0) = false := bne_eq_false_iff_eq.mpr c31
                              clear c31
                              have H' := Aside0.mk H
                              clear H
                              have hcz32_0 : wc.cell? ⟨gb159, 0, none⟩ = some (.int .i64 ((rd_T52 l0 x25_2).f0)) := (blk_cell BK159.out 0).trans rfl
                              have hcz32_1 : wc.cell? ⟨gb159, 1, none⟩ = some (.int .i64 ((rd_T52 l0 x25_2).f1)) := (blk_cell BK159.out 1).trans rfl
                              have hcz32_2 : wc.cell? ⟨gb159, 2, none⟩ = some (.int .i64 ((rd_T52 l0 x25_2).f2)) := (blk_cell BK159.out 2).trans rfl
                              have hfz32_0 := blk_frozen BK159.out 0
                              have hfz32_1 := blk_frozen BK159.out 1
                              have hfz32_2 := blk_frozen BK159.out 2
                              go_wp2_with (first | ((with_reducible refine gate_callee (f := 37) rfl ?_); refine goesL_ (some 62) rfl rfl Tryd.func37 (by kernel_rfl) rfl #[.int .i64 ((rd_T52 l0 x25_2).f0)] rfl (by (try simp only [List.map_toArray, List.map_cons, List.map_nil]); first | done | rfl | (simp only [List.length_drop, List.length_take]; rfl)) ?_; (with_reducible refine (impl_usesCounter.calls ((rd_T52 l0 x25_2).f0) true _ A26.out).mono ?_); rintro e w' ⟨rfl, ⟨nd, rfl⟩⟩; refine ⟨_, rfl, ?_⟩) | (go_at_call 38; (with_reducible refine (impl_usesTarget.calls ((rd_T52 l0 x25_2).f0) false _ A28.out).mono ?_); rintro e w' ⟨rfl, ⟨nd, rfl⟩⟩))
                              go_roundg kj10
                              case measure => have := HJ2.out; have := HK2.out; have := HJ10.out; omega
                              case rel => exact ⟨(wrap64 (x25_2 + 1)), (by first | rfl | (simp; done) | (simp [*]; done)), H', ⟨by have := HJ2.out; have := HK2.out; have := HJ10.out; omega⟩, ⟨by repeat (first | (with_reducible first | exact HB.out | apply below_alloc | apply pw_below_drewN | apply below_drew1 | refine below_set ?_ GE159.out) | exact HB.out)⟩⟩
                            · rw [if_neg c31] at H
                              have c31b0 : (((rd_T52 l0 x25_2).f2) == 0) = false := beq_eq_false_iff_ne.mpr c31
                              have c31b1 : (((rd_T52 l0 x25_2).f2) != 0) = true := bne_iff_ne.mpr c31
                              obtain rfl := Option.some.inj H
                              have hcz33_0 : wc.cell? ⟨gb159, 0, none⟩ = some (.int .i64 ((rd_T52 l0 x25_2).f0)) := (blk_cell BK159.out 0).trans rfl
                              have hcz33_1 : wc.cell? ⟨gb159, 1, none⟩ = some (.int .i64 ((rd_T52 l0 x25_2).f1)) := (blk_cell BK159.out 1).trans rfl
                              have hcz33_2 : wc.cell? ⟨gb159, 2, none⟩ = some (.int .i64 ((rd_T52 l0 x25_2).f2)) := (blk_cell BK159.out 2).trans rfl
                              have hfz33_0 := blk_frozen BK159.out 0
                              have hfz33_1 := blk_frozen BK159.out 1
                              have hfz33_2 := blk_frozen BK159.out 2
                              go_wp2_with (first | ((with_reducible refine gate_callee (f := 37) rfl ?_); refine goesL_ (some 62) rfl rfl Tryd.func37 (by kernel_rfl) rfl #[.int .i64 ((rd_T52 l0 x25_2).f0)] rfl (by (try simp only [List.map_toArray, List.map_cons, List.map_nil]); first | done | rfl | (simp only [List.length_drop, List.length_take]; rfl)) ?_; (with_reducible refine (impl_usesCounter.calls ((rd_T52 l0 x25_2).f0) true _ A26.out).mono ?_); rintro e w' ⟨rfl, ⟨nd, rfl⟩⟩; refine ⟨_, rfl, ?_⟩) | (go_at_call 38; (with_reducible refine (impl_usesTarget.calls ((rd_T52 l0 x25_2).f0) false _ A28.out).mono ?_); rintro e w' ⟨rfl, ⟨nd, rfl⟩⟩))
                              go_ret
                              exact ⟨by first | rfl | (simp [errW_none, errW_some] <;> rfl) | (simp [*, errW_none, errW_some] <;> rfl), by repeat (first | (with_reducible first | exact HB.out | apply below_alloc | apply pw_below_drewN | apply below_drew1 | refine below_set ?_ GE159.out) | exact HB.out)⟩
                        · replace c27 := Bool.eq_false_iff.mpr c27
                          subst c27
                          have H1 : (if ((rd_T52 l0 x25_2).f1) = 0 then ((impl_usesTarget.f ((rd_T52 l0 x25_2).f0)).bind fun t162 => (if t162 = true then (impl_AreInstructions.l0 kj10 l0 a1 l0 (l0.length : Int) (wrap64 (x25_2 + 1))) else (if ((rd_T52 l0 x25_2).f2) = 0 then (impl_AreInstructions.l0 kj10 l0 a1 l0 (l0.length : Int) (wrap64 (x25_2 + 1))) else (some false)))) else (some false)) = some r := by rw [if_neg (show ¬ (false = true) by decide)] at H; exact H
                          clear H
                          have H := H1
                          clear H1
                          by_cases c34 : ((rd_T52 l0 x25_2).f1) = 0
                          · rw [if_pos c34] at H
                            have c34b0 : (((rd_T52 l0 x25_2).f1) == 0) = true := beq_iff_eq.mpr c34
                            have c34b1 : (((rd_T52 l0 x25_2).f1) != 0) = false := bne_eq_false_iff_eq.mpr c34
                            clear c34
                            replace H := Option.bind_eq_some_iff.mp H
                            obtain ⟨t162, A350, H⟩ := H
                            replace H : (if t162 = true then (impl_AreInstructions.l0 kj10 l0 a1 l0 (l0.length : Int) (wrap64 (x25_2 + 1))) else (if ((rd_T52 l0 x25_2).f2) = 0 then (impl_AreInstructions.l0 kj10 l0 a1 l0 (l0.length : Int) (wrap64 (x25_2 + 1))) else (some false))) = some r := H
                            have A35 := Aside0.mk A350
                            clear A350
                            by_cases c36 : t162 = true
                            · subst c36
                              have H1 : (impl_AreInstructions.l0 kj10 l0 a1 l0 (l0.length : Int) (wrap64 (x25_2 + 1))) = some r := by rw [if_pos rfl] at H; exact H
                              clear H
                              have H := H1
                              clear H1
                              have H' := Aside0.mk H
                              clear H
                              have hcz37_0 : wc.cell? ⟨gb159, 0, none⟩ = some (.int .i64 ((rd_T52 l0 x25_2).f0)) := (blk_cell BK159.out 0).trans rfl
                              have hcz37_1 : wc.cell? ⟨gb159, 1, none⟩ = some (.int .i64 ((rd_T52 l0 x25_2).f1)) := (blk_cell BK159.out 1).trans rfl
                              have hcz37_2 : wc.cell? ⟨gb159, 2, none⟩ = some (.int .i64 ((rd_T52 l0 x25_2).f2)) := (blk_cell BK159.out 2).trans rfl
                              have hfz37_0 := blk_frozen BK159.out 0
                              have hfz37_1 := blk_frozen BK159.out 1
                              have hfz37_2 := blk_frozen BK159.out 2
                              go_wp2_with (first | ((with_reducible refine gate_callee (f := 37) rfl ?_); refine goesL_ (some 62) rfl rfl Tryd.func37 (by kernel_rfl) rfl #[.int .i64 ((rd_T52 l0 x25_2).f0)] rfl (by (try simp only [List.map_toArray, List.map_cons, List.map_nil]); first | done | rfl | (simp only [List.length_drop, List.length_take]; rfl)) ?_; (with_reducible refine (impl_usesCounter.calls ((rd_T52 l0 x25_2).f0) false _ A26.out).mono ?_); rintro e w' ⟨rfl, ⟨nd, rfl⟩⟩; refine ⟨_, rfl, ?_⟩) | (go_at_call 38; (with_reducible refine (impl_usesTarget.calls ((rd_T52 l0 x25_2).f0) true _ A35.out).mono ?_); rintro e w' ⟨rfl, ⟨nd, rfl⟩⟩))
                              go_roundg kj10
                              case measure => have := HJ2.out; have := HK2.out; have := HJ10.out; omega
                              case rel => exact ⟨(wrap64 (x25_2 + 1)), (by first | rfl | (simp; done) | (simp [*]; done)), H', ⟨by have := HJ2.out; have := HK2.out; have := HJ10.out; omega⟩, ⟨by repeat (first | (with_reducible first | exact HB.out | apply below_alloc | apply pw_below_drewN | apply below_drew1 | refine below_set ?_ GE159.out) | exact HB.out)⟩⟩
                            · replace c36 := Bool.eq_false_iff.mpr c36
                              subst c36
                              have H1 : (if ((rd_T52 l0 x25_2).f2) = 0 then (impl_AreInstructions.l0 kj10 l0 a1 l0 (l0.length : Int) (wrap64 (x25_2 + 1))) else (some false)) = some r := by rw [if_neg (show ¬ (false = true) by decide)] at H; exact H
                              clear H
                              have H := H1
                              clear H1
                              by_cases c38 : ((rd_T52 l0 x25_2).f2) = 0
                              · rw [if_pos c38] at H
                                have c38b0 : (((rd_T52 l0 x25_2).f2) == 0) = true := beq_iff_eq.mpr c38
                                have c38b1 : (((rd_T52 l0 x25_2).f2) != 0) = false := bne_eq_false_iff_eq.mpr c38
                                clear c38
                                have H' := Aside0.mk H
                                clear H
                                have hcz39_0 : wc.cell? ⟨gb159, 0, none⟩ = some (.int .i64 ((rd_T52 l0 x25_2).f0)) := (blk_cell BK159.out 0).trans rfl
                                have hcz39_1 : wc.cell? ⟨gb159, 1, none⟩ = some (.int .i64 ((rd_T52 l0 x25_2).f1)) := (blk_cell BK159.out 1).trans rfl
                                have hcz39_2 : wc.cell? ⟨gb159, 2, none⟩ = some (.int .i64 ((rd_T52 l0 x25_2).f2)) := (blk_cell BK159.out 2).trans rfl
                                have hfz39_0 := blk_frozen BK159.out 0
                                have hfz39_1 := blk_frozen BK159.out 1
                                have hfz39_2 := blk_frozen BK159.out 2
                                go_wp2_with (first | ((with_reducible refine gate_callee (f := 37) rfl ?_); refine goesL_ (some 62) rfl rfl Tryd.func37 (by kernel_rfl) rfl #[.int .i64 ((rd_T52 l0 x25_2).f0)] rfl (by (try simp only [List.map_toArray, List.map_cons, List.map_nil]); first | done | rfl | (simp only [List.length_drop, List.length_take]; rfl)) ?_; (with_reducible refine (impl_usesCounter.calls ((rd_T52 l0 x25_2).f0) false _ A26.out).mono ?_); rintro e w' ⟨rfl, ⟨nd, rfl⟩⟩; refine ⟨_, rfl, ?_⟩) | (go_at_call 38; (with_reducible refine (impl_usesTarget.calls ((rd_T52 l0 x25_2).f0) false _ A35.out).mono ?_); rintro e w' ⟨rfl, ⟨nd, rfl⟩⟩))
                                go_roundg kj10
                                case measure => have := HJ2.out; have := HK2.out; have := HJ10.out; omega
                                case rel => exact ⟨(wrap64 (x25_2 + 1)), (by first | rfl | (simp; done) | (simp [*]; done)), H', ⟨by have := HJ2.out; have := HK2.out; have := HJ10.out; omega⟩, ⟨by repeat (first | (with_reducible first | exact HB.out | apply below_alloc | apply pw_below_drewN | apply below_drew1 | refine below_set ?_ GE159.out) | exact HB.out)⟩⟩
                              · rw [if_neg c38] at H
                                have c38b0 : (((rd_T52 l0 x25_2).f2) == 0) = false := beq_eq_false_iff_ne.mpr c38
                                have c38b1 : (((rd_T52 l0 x25_2).f2) != 0) = true := bne_iff_ne.mpr c38
                                obtain rfl := Option.some.inj H
                                have hcz40_0 : wc.cell? ⟨gb159, 0, none⟩ = some (.int .i64 ((rd_T52 l0 x25_2).f0)) := (blk_cell BK159.out 0).trans rfl
                                have hcz40_1 : wc.cell? ⟨gb159, 1, none⟩ = some (.int .i64 ((rd_T52 l0 x25_2).f1)) := (blk_cell BK159.out 1).trans rfl
                                have hcz40_2 : wc.cell? ⟨gb159, 2, none⟩ = some (.int .i64 ((rd_T52 l0 x25_2).f2)) := (blk_cell BK159.out 2).trans rfl
                                have hfz40_0 := blk_frozen BK159.out 0
                                have hfz40_1 := blk_frozen BK159.out 1
                                have hfz40_2 := blk_frozen BK159.out 2
                                go_wp2_with (first | ((with_reducible refine gate_callee (f := 37) rfl ?_); refine goesL_ (some 62) rfl rfl Tryd.func37 (by kernel_rfl) rfl #[.int .i64 ((rd_T52 l0 x25_2).f0)] rfl (by (try simp only [List.map_toArray, List.map_cons, List.map_nil]); first | done | rfl | (simp only [List.length_drop, List.length_take]; rfl)) ?_; (with_reducible refine (impl_usesCounter.calls ((rd_T52 l0 x25_2).f0) false _ A26.out).mono ?_); rintro e w' ⟨rfl, ⟨nd, rfl⟩⟩; refine ⟨_, rfl, ?_⟩) | (go_at_call 38; (with_reducible refine (impl_usesTarget.calls ((rd_T52 l0 x25_2).f0) false _ A35.out).mono ?_); rintro e w' ⟨rfl, ⟨nd, rfl⟩⟩))
                                go_ret
                                exact ⟨by first | rfl | (simp [errW_none, errW_some] <;> rfl) | (simp [*, errW_none, errW_some] <;> rfl), by repeat (first | (with_reducible first | exact HB.out | apply below_alloc | apply pw_below_drewN | apply below_drew1 | refine below_set ?_ GE159.out) | exact HB.out)⟩
                          · rw [if_neg c34] at H
                            have c34b0 : (((rd_T52 l0 x25_2).f1) == 0) = false := beq_eq_false_iff_ne.mpr c34
                            have c34b1 : (((rd_T52 l0 x25_2).f1) != 0) = true := bne_iff_ne.mpr c34
                            obtain rfl := Option.some.inj H
                            have hcz41_0 : wc.cell? ⟨gb159, 0, none⟩ = some (.int .i64 ((rd_T52 l0 x25_2).f0)) := (blk_cell BK159.out 0).trans rfl
                            have hcz41_1 : wc.cell? ⟨gb159, 1, none⟩ = some (.int .i64 ((rd_T52 l0 x25_2).f1)) := (blk_cell BK159.out 1).trans rfl
                            have hcz41_2 : wc.cell? ⟨gb159, 2, none⟩ = some (.int .i64 ((rd_T52 l0 x25_2).f2)) := (blk_cell BK159.out 2).trans rfl
                            have hfz41_0 := blk_frozen BK159.out 0
                            have hfz41_1 := blk_frozen BK159.out 1
                            have hfz41_2 := blk_frozen BK159.out 2
                            go_wp2_with (first | ((with_reducible refine gate_callee (f := 37) rfl ?_); refine goesL_ (some 62) rfl rfl Tryd.func37 (by kernel_rfl) rfl #[.int .i64 ((rd_T52 l0 x25_2).f0)] rfl (by (try simp only [List.map_toArray, List.map_cons, List.map_nil]); first | done | rfl | (simp only [List.length_drop, List.length_take]; rfl)) ?_; (with_reducible refine (impl_usesCounter.calls ((rd_T52 l0 x25_2).f0) false _ A26.out).mono ?_); rintro e w' ⟨rfl, ⟨nd, rfl⟩⟩; refine ⟨_, rfl, ?_⟩))
                            go_ret
                            exact ⟨by first | rfl | (simp [errW_none, errW_some] <;> rfl) | (simp [*, errW_none, errW_some] <;> rfl), by repeat (first | (with_reducible first | exact HB.out | apply below_alloc | apply pw_below_drewN | apply below_drew1 | refine below_set ?_ GE159.out) | exact HB.out)⟩
                · rw [if_neg c10] at H
                  exact absurd H (by simp)
              · rw [if_neg c9] at H
                exact absurd H (by simp)
            · rw [if_neg c8] at H
              have c8b0 : decide (x25_2 < (l0.length : Int)) = false := decide_eq_false c8
              clear c8
              obtain rfl := Option.some.inj H
              go_wp2
              go_ret
              exact ⟨by first | rfl | (simp [errW_none, errW_some] <;> rfl) | (simp [*, errW_none, errW_some] <;> rfl), by repeat (first | (with_reducible first | exact HB.out | apply below_alloc | apply pw_below_drewN | apply below_drew1) | exact HB.out)⟩

end Go.Proofs.YtbcphkblieeemaaDoor.P
