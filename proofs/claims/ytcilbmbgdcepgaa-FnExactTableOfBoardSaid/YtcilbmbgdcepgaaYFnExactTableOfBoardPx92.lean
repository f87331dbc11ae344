-- PRINTED by print.py (a twelfth state) out of the translation. Not trusted: Lean checks it.
import Derived.Test.YtcilbmbgdcepgaaZFnExactTableOfBoard0
import Derived.Test.YtcilbmbgdcepgaaYFnExactTableOfBoardPx80
namespace Go.Proofs.Ytcilbmbgdcepgaa.P
open Go.RowKit Go.Proofs.YtcilbmbgdcepgaaW.PrintWords Go.Proofs.YtcilbmbgdcepgaaW.PrintLast Go.Proofs.YtcilbmbgdcepgaaW.PrintMore
attribute [local go_sem] max2_int min2_int max_two min_two max_three min_three max_four min_four   -- for this text's walks alone
set_option linter.unusedVariables false
set_option linter.unusedSimpArgs false

/-! ### spec_TableOfBoard: function 35 -/
mutual
def spec_TableOfBoard.j0 : Nat → Int → Int → Bool → Int → Int → List (S71) → Option (Int × List Int × Bool)
  | 0, _, _, _, _, _, _ => none
  | k + 1, x1, x2, x27, x868000, x868001, x868002 => if x27 = true then (some (0, ([] : List Int), false)) else (spec_TableOfBoard.l0 k x1 0 x868000 x868001 x868002 x2 ([] : List Int))
def spec_TableOfBoard.l0 : Nat → Int → Int → Int → Int → List (S71) → Int → List Int → Option (Int × List Int × Bool)
  | 0, _, _, _, _, _, _, _ => none
  | k + 1, x1, x9, x868000, x868001, x868002, x872000, x872001 => if x9 < x868001 then ((spec_ReadEntry.f k x868000 x868001 x868002 x1 x9).bind fun bt872 => (if bt872.2 = true then (if x872001.length < 17592186044416 then (spec_TableOfBoard.l0 k x1 (wrap64 (x9 + 1)) x868000 x868001 x868002 x872000 (x872001 ++ [bt872.1])) else (none)) else (some (0, ([] : List Int), false)))) else (some (x872000, x872001, true))
end
def spec_TableOfBoard.f (k : Nat) (a0_0 : Int) (a0_1 : Int) (l0_2 : List (S71)) (a1 : Int) (a2 : Int) : Option (Int × List Int × Bool) := (spec_boGood.f k a0_0 a0_1 l0_2).bind fun t869 => (if t869 = true then ((spec_l1In.f a2 0 3).bind fun t870 => (if t870 = true then (if 0 ≤ (IntKind.u64.wrap (a2)) then (spec_TableOfBoard.j0 k a1 a2 (a0_1 != (shl .i64 1 (IntKind.u64.wrap (a2)))) a0_0 a0_1 l0_2) else (none)) else (spec_TableOfBoard.j0 k a1 a2 true a0_0 a0_1 l0_2))) else (spec_TableOfBoard.j0 k a1 a2 true a0_0 a0_1 l0_2))
theorem spec_TableOfBoard.mono_l : ∀ k, (∀ y0 y1 y2 y3 y4 y5, LeO (spec_TableOfBoard.j0 k y0 y1 y2 y3 y4 y5) (spec_TableOfBoard.j0 (k + 1) y0 y1 y2 y3 y4 y5)) ∧ (∀ y0 y1 y2 y3 y4 y5 y6, LeO (spec_TableOfBoard.l0 k y0 y1 y2 y3 y4 y5 y6) (spec_TableOfBoard.l0 (k + 1) y0 y1 y2 y3 y4 y5 y6))
  | 0 => ⟨fun _ _ _ _ _ _ r h => by simp [spec_TableOfBoard.j0] at h, fun _ _ _ _ _ _ _ r h => by simp [spec_TableOfBoard.l0] at h⟩
  | k + 1 => by
    obtain ⟨ih0, ih1⟩ := spec_TableOfBoard.mono_l k
    refine ⟨?_, ?_⟩
    · intro y0 y1 y2 y3 y4 y5
      unfold spec_TableOfBoard.j0
      repeat' first
      | (with_reducible exact ih0 _ _ _ _ _ _)
      | (with_reducible exact ih1 _ _ _ _ _ _ _)
      | (with_reducible exact spec_ReadEntry.mono _ _ _ _ _ _)
      | (with_reducible exact spec_boGood.mono _ _ _ _)
      | (with_reducible exact LeO.refl _)
      | (with_reducible exact LeO.none _)
      | (with_reducible refine LeO.ite ?_ ?_)
      | (with_reducible refine LeO.bind ?_ (fun _ => ?_))
      | exact ih0 _ _ _ _ _ _
      | exact ih1 _ _ _ _ _ _ _
      | exact spec_ReadEntry.mono _ _ _ _ _ _
      | exact spec_boGood.mono _ _ _ _
      | exact LeO.none _
      | refine LeO.ite ?_ ?_
      | refine LeO.bind ?_ (fun _ => ?_)
    · intro y0 y1 y2 y3 y4 y5 y6
      unfold spec_TableOfBoard.l0
      repeat' first
      | (with_reducible exact ih0 _ _ _ _ _ _)
      | (with_reducible exact ih1 _ _ _ _ _ _ _)
      | (with_reducible exact spec_ReadEntry.mono _ _ _ _ _ _)
      | (with_reducible exact spec_boGood.mono _ _ _ _)
      | (with_reducible exact LeO.refl _)
      | (with_reducible exact LeO.none _)
      | (with_reducible refine LeO.ite ?_ ?_)
      | (with_reducible refine LeO.bind ?_ (fun _ => ?_))
      | exact ih0 _ _ _ _ _ _
      | exact ih1 _ _ _ _ _ _ _
      | exact spec_ReadEntry.mono _ _ _ _ _ _
      | exact spec_boGood.mono _ _ _ _
      | exact LeO.none _
      | refine LeO.ite ?_ ?_
      | refine LeO.bind ?_ (fun _ => ?_)
theorem spec_TableOfBoard.mono : ∀ a0 a1 a2 a3 a4 k, LeO (spec_TableOfBoard.f k a0 a1 a2 a3 a4) (spec_TableOfBoard.f (k + 1) a0 a1 a2 a3 a4) := by
  intro a0 a1 a2 a3 a4 k
  obtain ⟨ih0, ih1⟩ := spec_TableOfBoard.mono_l k
  unfold spec_TableOfBoard.f
  repeat' first
      | (with_reducible exact ih0 _ _ _ _ _ _)
      | (with_reducible exact ih1 _ _ _ _ _ _ _)
      | (with_reducible exact spec_ReadEntry.mono _ _ _ _ _ _)
      | (with_reducible exact spec_boGood.mono _ _ _ _)
      | (with_reducible exact LeO.refl _)
      | (with_reducible exact LeO.none _)
      | (with_reducible refine LeO.ite ?_ ?_)
      | (with_reducible refine LeO.bind ?_ (fun _ => ?_))
      | exact ih0 _ _ _ _ _ _
      | exact ih1 _ _ _ _ _ _ _
      | exact spec_ReadEntry.mono _ _ _ _ _ _
      | exact spec_boGood.mono _ _ _ _
      | exact LeO.none _
      | refine LeO.ite ?_ ?_
      | refine LeO.bind ?_ (fun _ => ?_)
set_option maxHeartbeats 8000000 in
set_option maxRecDepth 100000 in
theorem spec_TableOfBoard.calls (k : Nat) (a0_0 : Int) (a0_1 : Int) (A0_2 : Option Addr) (c0_2 : Nat) (l0_2 : List (S71)) (a1 : Int) (a2 : Int) (r1 : Int) (r2 : List Int) (r3 : Bool) (w : World) (hr0_2 : Kd.C k71 w A0_2 l0_2.length l0_2) (hc0_2 : l0_2.length ≤ c0_2) (h : spec_TableOfBoard.f k a0_0 a0_1 l0_2 a1 a2 = some (r1, r2, r3)) :
    Calls Try.prog 35 #[.agg #[.int .i64 a0_0, .int .i64 a0_1, .slice A0_2 l0_2.length c0_2], .int .i64 a1, .int .i64 a2] w fun e w' => ∃ v1_ : Value, e = .returned (.tuple #[.agg #[.int .i64 r1, v1_], .bool r3]) ∧ Kd.R (Kd.int .i64) 3 w' w.heap.size (fun _ => True) v1_ r2 ∧ Below w.heap.size w w' := by
  have hu24 := Try.underlying24
  have hu51 := Try.underlying51
  have HR0_2 := Aside0.mk hr0_2
  have HC0_2 := Aside0.mk hc0_2
  clear hr0_2 hc0_2
  have HB := Aside0.mk (Below.refl w.heap.size w)
  have H : ((spec_boGood.f k a0_0 a0_1 l0_2).bind fun t869 => (if t869 = true then ((spec_l1In.f a2 0 3).bind fun t870 => (if t870 = true then (if 0 ≤ (IntKind.u64.wrap (a2)) then (spec_TableOfBoard.j0 k a1 a2 (a0_1 != (shl .i64 1 (IntKind.u64.wrap (a2)))) a0_0 a0_1 l0_2) else (none)) else (spec_TableOfBoard.j0 k a1 a2 true a0_0 a0_1 l0_2))) else (spec_TableOfBoard.j0 k a1 a2 true a0_0 a0_1 l0_2))) = some (r1, r2, r3) := h
  clear h
  have HC4 := Aside0.mk H
  clear H
  go_enter Try.func35, Try.ntmps35
  go_upto_region 1 with (first | ((with_reducible refine gate_dst (N := 3) rfl ?_); refine box_event ?hg (N := 3) ?hd (cs := #[.int .i64 a0_0, .int .i64 a0_1, .slice A0_2 l0_2.length c0_2]) (t := 24) ?hr ?_; (case hd => rfl); (case hg => rfl); (case hr => first | (go_simp; done) | (go_simp; rfl)); intro gb867 hg w5 hbox hb; have n0_ := Aside0.mk (below_step (by repeat (first | (with_reducible first | exact HB.out | apply below_alloc | apply pw_below_drewN | apply below_drew1) | exact HB.out)) hb); have n1_ := Aside0.mk (hbox); have n2_ := Aside0.mk ((by rw [hg]; exact (below_size (by repeat (first | (with_reducible first | exact HB.out | apply below_alloc | apply pw_below_drewN | apply below_drew1) | exact HB.out))) : w.heap.size ≤ gb867)); have n3_ := Aside0.mk ((by rw [hg]; exact (below_size (by repeat (first | (with_reducible first | exact HB.out | apply below_alloc | apply pw_below_drewN | apply below_drew1) | exact HB.out))) : w.heap.size ≤ gb867)); clear HB; have HB := n0_; have BK867 := n1_; have GW867 := n2_; have GE867 := n3_; clear n0_ n1_ n2_ n3_; clear hb hbox hg) | ((with_reducible refine gate_dst (N := 6) rfl ?_); refine box_event ?hg (N := 6) ?hd (cs := #[.int .i64 0, .slice none 0 0]) (t := 51) ?hr ?_; (case hd => rfl); (case hg => rfl); (case hr => first | (go_simp; done) | (go_simp; rfl)); intro gb868 hg w6 hbox hb; have n0_ := Aside0.mk (blk_below (g := gb867) (o := .cells #[.int .i64 a0_0, .int .i64 a0_1, .slice A0_2 l0_2.length c0_2] 24 (0, 0)) (by (with_reducible repeat (first | refine blk_drewN ?_ _ | refine blk_drew ?_ | refine blk_alloc ?_ _)); exact BK867.out) hb); have n1_ := Aside0.mk (below_step (by repeat (first | (with_reducible first | exact HB.out | apply below_alloc | apply pw_below_drewN | apply below_drew1 | refine below_set ?_ GE867.out) | exact HB.out)) hb); have n2_ := Aside0.mk (hbox); have n3_ := Aside0.mk ((by rw [hg]; exact (below_size (by repeat (first | (with_reducible first | exact HB.out | apply below_alloc | apply pw_below_drewN | apply below_drew1 | refine below_set ?_ GE867.out) | exact HB.out))) : w.heap.size ≤ gb868)); have n4_ := Aside0.mk ((by rw [hg]; exact (below_size (by repeat (first | (with_reducible first | exact HB.out | apply below_alloc | apply pw_below_drewN | apply below_drew1 | refine below_set ?_ GE867.out) | exact HB.out))) : w.heap.size ≤ gb868)); have n5_ := Aside0.mk ((by rw [hg]; exact Nat.ne_of_lt (blk_lt (g := gb867) (o := .cells #[.int .i64 a0_0, .int .i64 a0_1, .slice A0_2 l0_2.length c0_2] 24 (0, 0)) (by (with_reducible repeat (first | refine blk_drewN ?_ _ | refine blk_drew ?_ | refine blk_alloc ?_ _)); exact BK867.out)) : gb867 ≠ gb868)); have n6_ := Aside0.mk ((by rw [hg]; exact Nat.ne_of_gt (blk_lt (g := gb867) (o := .cells #[.int .i64 a0_0, .int .i64 a0_1, .slice A0_2 l0_2.length c0_2] 24 (0, 0)) (by (with_reducible repeat (first | refine blk_drewN ?_ _ | refine blk_drew ?_ | refine blk_alloc ?_ _)); exact BK867.out)) : gb868 ≠ gb867)); clear BK867; clear HB; have BK867 := n0_; have HB := n1_; have BK868 := n2_; have GW868 := n3_; have GE868 := n4_; have NB867_868 := n5_; have NB868_867 := n6_; clear n0_ n1_ n2_ n3_ n4_ n5_ n6_; clear hb hbox hg))
  (try simp only [Act.put, List.setIfInBounds_toArray, List.set_cons_zero, List.set_cons_succ])
  go_cut [27] (fun v27 wc => ∃ (kq : Nat) (x27_3 : Bool), v27 = .bool x27_3 ∧ Aside0 (spec_TableOfBoard.j0 kq a1 a2 x27_3 a0_0 a0_1 l0_2 = some (r1, r2, r3)) ∧ Aside0 (kq ≤ k) ∧ Aside0 (wc.heap[gb867]? = some (.cells #[.int .i64 a0_0, .int .i64 a0_1, (.slice A0_2 l0_2.length c0_2)] 24 (0, 0))) ∧ Aside0 (wc.heap[gb868]? = some (.cells #[.int .i64 0, (.slice none 0 0)] 51 (0, 0))) ∧ Aside0 (Below w.heap.size w wc))
  case first =>
    have H := HC4.out
    clear HC4
    replace H := Option.bind_eq_some_iff.mp H
    obtain ⟨t869, A70, H⟩ := H
    replace H : (if t869 = true then ((spec_l1In.f a2 0 3).bind fun t870 => (if t870 = true then (if 0 ≤ (IntKind.u64.wrap (a2)) then (spec_TableOfBoard.j0 k a1 a2 (a0_1 != (shl .i64 1 (IntKind.u64.wrap (a2)))) a0_0 a0_1 l0_2) else (none)) else (spec_TableOfBoard.j0 k a1 a2 true a0_0 a0_1 l0_2))) else (spec_TableOfBoard.j0 k a1 a2 true a0_0 a0_1 l0_2)) = some (r1, r2, r3) := H
    have A7 := Aside0.mk A70
    clear A70
    by_cases c8 : t869 = true
    · subst c8
      have H1 : ((spec_l1In.f a2 0 3).bind fun t870 => (if t870 = true then (if 0 ≤ (IntKind.u64.wrap (a2)) then (spec_TableOfBoard.j0 k a1 a2 (a0_1 != (shl .i64 1 (IntKind.u64.wrap (a2)))) a0_0 a0_1 l0_2) else (none)) else (spec_TableOfBoard.j0 k a1 a2 true a0_0 a0_1 l0_2))) = some (r1, r2, r3) := by rw [if_pos rfl] at H; exact H
      clear H
      have H := H1
      clear H1
      replace H := Option.bind_eq_some_iff.mp H
      obtain ⟨t870, A90, H⟩ := H
      replace H : (if t870 = true then (if 0 ≤ (IntKind.u64.wrap (a2)) then (spec_TableOfBoard.j0 k a1 a2 (a0_1 != (shl .i64 1 (IntKind.u64.wrap (a2)))) a0_0 a0_1 l0_2) else (none)) else (spec_TableOfBoard.j0 k a1 a2 true a0_0 a0_1 l0_2)) = some (r1, r2, r3) := H
      have A9 := Aside0.mk A90
      clear A90
      by_cases c10 : t870 = true
      · subst c10
        have H1 : (if 0 ≤ (IntKind.u64.wrap (a2)) then (spec_TableOfBoard.j0 k a1 a2 (a0_1 != (shl .i64 1 (IntKind.u64.wrap (a2)))) a0_0 a0_1 l0_2) else (none)) = some (r1, r2, r3) := by rw [if_pos rfl] at H; exact H
        clear H
        have H := H1
        clear H1
        obtain ⟨ji11, hji11⟩ : ∃ j_ : Int, (IntKind.u64.wrap (a2)) = j_ := ⟨_, rfl⟩
        replace H : (if 0 ≤ (ji11) then (spec_TableOfBoard.j0 k a1 a2 (a0_1 != (shl .i64 1 (ji11))) a0_0 a0_1 l0_2) else (none)) = some (r1, r2, r3) := by first | (rw [hji11] at H; exact H) | (simp only [hji11] at H ⊢; exact H)
        (try rw [hji11] at A7)
        (try rw [hji11] at A9)
        by_cases c12 : 0 ≤ (ji11)
        · rw [if_pos c12] at H
          have c12b0 := eq_true c12
          have c12b1 : decide (0 ≤ (ji11)) = true := decide_eq_true c12
          clear c12
          obtain ⟨ji13, hji13⟩ : ∃ j_ : Int, (shl .i64 1 (ji11)) = j_ := ⟨_, rfl⟩
          replace H : (spec_TableOfBoard.j0 k a1 a2 (a0_1 != (ji13)) a0_0 a0_1 l0_2) = some (r1, r2, r3) := by first | (rw [hji13] at H; exact H) | (simp only [hji13] at H ⊢; exact H)
          (try rw [hji13] at A7)
          (try rw [hji13] at A9)
          have hji13_ : (IntKind.i64.wrap (1 * 2 ^ min (ji11).toNat 64)) = ji13 := hji13
          have hji13z : (ji11) ≤ 64 → (IntKind.i64.wrap (1 * 2 ^ (ji11).toNat)) = ji13 := shl_small hji13
          have hji13u : (IntKind.i64.wrap (2 ^ min (ji11).toNat 64)) = ji13 := by have h_ := hji13_; rw [Int.one_mul] at h_; exact h_
          have hji13v : (ji11) ≤ 64 → (IntKind.i64.wrap (2 ^ (ji11).toNat)) = ji13 := fun hle_ => by have h_ := hji13z hle_; rw [Int.one_mul] at h_; exact h_
          have hji13y : (wrap64 (1 * 2 ^ min (ji11).toNat 64)) = ji13 := (i64_w _).symm.trans hji13_
          have hji13x : (ji11) ≤ 64 → (wrap64 (1 * 2 ^ (ji11).toNat)) = ji13 := fun h_ => (i64_w _).symm.trans (hji13z h_)
          have H' := Aside0.mk H
          clear H
          have hnb14 := NB867_868.out
          have hnc14 := NB868_867.out
          have hcz15_0 : w6.cell? ⟨gb867, 0, none⟩ = some (.int .i64 a0_0) := (blk_cell BK867.out 0).trans rfl
          have hcz15_1 : w6.cell? ⟨gb867, 1, none⟩ = some (.int .i64 a0_1) := (blk_cell BK867.out 1).trans rfl
          have hcz15_2 : w6.cell? ⟨gb867, 2, none⟩ = some (.slice A0_2 l0_2.length c0_2) := (blk_cell BK867.out 2).trans rfl
          have hfz15_0 := blk_frozen BK867.out 0
          have hfz15_1 := blk_frozen BK867.out 1
          have hfz15_2 := blk_frozen BK867.out 2
          go_wp2_with (first | ((with_reducible refine gate_callee (f := 66) rfl ?_); refine goesL_ (some 13) rfl rfl Try.func66 (by kernel_rfl) rfl #[.agg #[.int .i64 a0_0, .int .i64 a0_1, .slice A0_2 l0_2.length c0_2]] rfl (by (try simp only [List.map_toArray, List.map_cons, List.map_nil]); first | done | rfl | (simp only [List.length_drop, List.length_take]; rfl)) ?_; (with_reducible refine (spec_boGood.calls k a0_0 a0_1 _ _ l0_2 true _ ?side1 ?side2 A7.out).mono ?_); (case side1 => repeat (first | exact (Kd.C_below HR0_2.out HB.out) | (with_reducible refine Kd.C_alloc ?_ _) | (with_reducible refine Kd.C_drewN ?_ _) | (with_reducible refine Kd.C_drew ?_))); (case side2 => exact HC0_2.out); rintro e w16 ⟨rfl, hb⟩; refine ⟨_, rfl, ?_⟩; have n0_ := Aside0.mk (blk_below (g := gb867) (o := .cells #[.int .i64 a0_0, .int .i64 a0_1, .slice A0_2 l0_2.length c0_2] 24 (0, 0)) (by (with_reducible repeat (first | refine blk_drewN ?_ _ | refine blk_drew ?_ | refine blk_alloc ?_ _)); exact BK867.out) hb); have n1_ := Aside0.mk (blk_below (g := gb868) (o := .cells #[.int .i64 0, .slice none 0 0] 51 (0, 0)) (by (with_reducible repeat (first | refine blk_drewN ?_ _ | refine blk_drew ?_ | refine blk_alloc ?_ _)); exact BK868.out) hb); have n2_ := Aside0.mk (below_step (by repeat (first | (with_reducible first | exact HB.out | apply below_alloc | apply pw_below_drewN | apply below_drew1 | refine below_set ?_ GE867.out | refine below_set ?_ GE868.out) | exact HB.out)) hb); clear BK867; clear BK868; clear HB; have BK867 := n0_; have BK868 := n1_; have HB := n2_; clear n0_ n1_ n2_; (try clear hb); (try clear hb2); (try clear hk); (try clear hi)) | (go_at_call 63; (with_reducible refine (spec_l1In.calls a2 0 3 true _ A9.out).mono ?_); rintro e w' ⟨rfl, ⟨nd, rfl⟩⟩; have hcz17_0 : w16.cell? ⟨gb867, 0, none⟩ = some (.int .i64 a0_0) := (blk_cell BK867.out 0).trans rfl; have hcz17_1 : w16.cell? ⟨gb867, 1, none⟩ = some (.int .i64 a0_1) := (blk_cell BK867.out 1).trans rfl; have hcz17_2 : w16.cell? ⟨gb867, 2, none⟩ = some (.slice A0_2 l0_2.length c0_2) := (blk_cell BK867.out 2).trans rfl; have hfz17_0 := blk_frozen BK867.out 0; have hfz17_1 := blk_frozen BK867.out 1; have hfz17_2 := blk_frozen BK867.out 2))
          go_meet
          case rel => exact ⟨_, ((a0_1 != (ji13))), (by first | rfl | (simp; done) | (simp only [← hji13] <;> (first | rfl | simp)) | (simp [*]; done)), H', ⟨by first | omega | exact Nat.le_refl _⟩, ⟨by (with_reducible repeat (first | refine blk_drewN ?_ _ | refine blk_drew ?_ | refine blk_alloc ?_ _)); exact BK867.out⟩, ⟨by (with_reducible repeat (first | refine blk_drewN ?_ _ | refine blk_drew ?_ | refine blk_alloc ?_ _)); exact BK868.out⟩, ⟨by repeat (first | (with_reducible first | exact HB.out | apply below_alloc | apply pw_below_drewN | apply below_drew1 | refine below_set ?_ GE867.out | refine below_set ?_ GE868.out) | exact HB.out)⟩⟩
        · rw [if_neg c12] at H
          exact absurd H (by simp)
      · replace c10 := Bool.eq_false_iff.mpr c10
        subst c10
        have H1 : (spec_TableOfBoard.j0 k a1 a2 true a0_0 a0_1 l0_2) = some (r1, r2, r3) := by rw [if_neg (show ¬ (false = true) by decide)] at H; exact H
        clear H
        have H := H1
        clear H1
        have H' := Aside0.mk H
        clear H
        have hnb18 := NB867_868.out
        have hnc18 := NB868_867.out
        have hcz19_0 : w6.cell? ⟨gb867, 0, none⟩ = some (.int .i64 a0_0) := (blk_cell BK867.out 0).trans rfl
        have hcz19_1 : w6.cell? ⟨gb867, 1, none⟩ = some (.int .i64 a0_1) := (blk_cell BK867.out 1).trans rfl
        have hcz19_2 : w6.cell? ⟨gb867, 2, none⟩ = some (.slice A0_2 l0_2.length c0_2) := (blk_cell BK867.out 2).trans rfl
        have hfz19_0 := blk_frozen BK867.out 0
        have hfz19_1 := blk_frozen BK867.out 1
        have hfz19_2 := blk_frozen BK867.out 2
        go_wp2_with (first | ((with_reducible refine gate_callee (f := 66) rfl ?_); refine goesL_ (some 13) rfl rfl Try.func66 (by kernel_rfl) rfl #[.agg #[.int .i64 a0_0, .int .i64 a0_1, .slice A0_2 l0_2.length c0_2]] rfl (by (try simp only [List.map_toArray, List.map_cons, List.map_nil]); first | done | rfl | (simp only [List.length_drop, List.length_take]; rfl)) ?_; (with_reducible refine (spec_boGood.calls k a0_0 a0_1 _ _ l0_2 true _ ?side1 ?side2 A7.out).mono ?_); (case side1 => repeat (first | exact (Kd.C_below HR0_2.out HB.out) | (with_reducible refine Kd.C_alloc ?_ _) | (with_reducible refine Kd.C_drewN ?_ _) | (with_reducible refine Kd.C_drew ?_))); (case side2 => exact HC0_2.out); rintro e w20 ⟨rfl, hb⟩; refine ⟨_, rfl, ?_⟩; have n0_ := Aside0.mk (blk_below (g := gb867) (o := .cells #[.int .i64 a0_0, .int .i64 a0_1, .slice A0_2 l0_2.length c0_2] 24 (0, 0)) (by (with_reducible repeat (first | refine blk_drewN ?_ _ | refine blk_drew ?_ | refine blk_alloc ?_ _)); exact BK867.out) hb); have n1_ := Aside0.mk (blk_below (g := gb868) (o := .cells #[.int .i64 0, .slice none 0 0] 51 (0, 0)) (by (with_reducible repeat (first | refine blk_drewN ?_ _ | refine blk_drew ?_ | refine blk_alloc ?_ _)); exact BK868.out) hb); have n2_ := Aside0.mk (below_step (by repeat (first | (with_reducible first | exact HB.out | apply below_alloc | apply pw_below_drewN | apply below_drew1 | refine below_set ?_ GE867.out | refine below_set ?_ GE868.out) | exact HB.out)) hb); clear BK867; clear BK868; clear HB; have BK867 := n0_; have BK868 := n1_; have HB := n2_; clear n0_ n1_ n2_; (try clear hb); (try clear hb2); (try clear hk); (try clear hi)) | (go_at_call 63; (with_reducible refine (spec_l1In.calls a2 0 3 false _ A9.out).mono ?_); rintro e w' ⟨rfl, ⟨nd, rfl⟩⟩))
        go_meet
        case rel => exact ⟨_, (true), (by first | rfl | (simp; done) | (simp [*]; done)), H', ⟨by first | omega | exact Nat.le_refl _⟩, ⟨by (with_reducible repeat (first | refine blk_drewN ?_ _ | refine blk_drew ?_ | refine blk_alloc ?_ _)); exact BK867.out⟩, ⟨by (with_reducible repeat (first | refine blk_drewN ?_ _ | refine blk_drew ?_ | refine blk_alloc ?_ _)); exact BK868.out⟩, ⟨by repeat (first | (with_reducible first | exact HB.out | apply below_alloc | apply pw_below_drewN | apply below_drew1 | refine below_set ?_ GE867.out | refine below_set ?_ GE868.out) | exact HB.out)⟩⟩
    · replace c8 := Bool.eq_false_iff.mpr c8
      subst c8
      have H1 : (spec_TableOfBoard.j0 k a1 a2 true a0_0 a0_1 l0_2) = some (r1, r2, r3) := by rw [if_neg (show ¬ (false = true) by decide)] at H; exact H
      clear H
      have H := H1
      clear H1
      have H' := Aside0.mk H
      clear H
      have hnb21 := NB867_868.out
      have hnc21 := NB868_867.out
      have hcz22_0 : w6.cell? ⟨gb867, 0, none⟩ = some (.int .i64 a0_0) := (blk_cell BK867.out 0).trans rfl
      have hcz22_1 : w6.cell? ⟨gb867, 1, none⟩ = some (.int .i64 a0_1) := (blk_cell BK867.out 1).trans rfl
      have hcz22_2 : w6.cell? ⟨gb867, 2, none⟩ = some (.slice A0_2 l0_2.length c0_2) := (blk_cell BK867.out 2).trans rfl
      have hfz22_0 := blk_frozen BK867.out 0
      have hfz22_1 := blk_frozen BK867.out 1
      have hfz22_2 := blk_frozen BK867.out 2
      go_wp2_with (first | ((with_reducible refine gate_callee (f := 66) rfl ?_); refine goesL_ (some 13) rfl rfl Try.func66 (by kernel_rfl) rfl #[.agg #[.int .i64 a0_0, .int .i64 a0_1, .slice A0_2 l0_2.length c0_2]] rfl (by (try simp only [List.map_toArray, List.map_cons, List.map_nil]); first | done | rfl | (simp only [List.length_drop, List.length_take]; rfl)) ?_; (with_reducible refine (spec_boGood.calls k a0_0 a0_1 _ _ l0_2 false _ ?side1 ?side2 A7.out).mono ?_); (case side1 => repeat (first | exact (Kd.C_below HR0_2.out HB.out) | (with_reducible refine Kd.C_alloc ?_ _) | (with_reducible refine Kd.C_drewN ?_ _) | (with_reducible refine Kd.C_drew ?_))); (case side2 => exact HC0_2.out); rintro e w23 ⟨rfl, hb⟩; refine ⟨_, rfl, ?_⟩; have n0_ := Aside0.mk (blk_below (g := gb867) (o := .cells #[.int .i64 a0_0, .int .i64 a0_1, .slice A0_2 l0_2.length c0_2] 24 (0, 0)) (by (with_reducible repeat (first | refine blk_drewN ?_ _ | refine blk_drew ?_ | refine blk_alloc ?_ _)); exact BK867.out) hb); have n1_ := Aside0.mk (blk_below (g := gb868) (o := .cells #[.int .i64 0, .slice none 0 0] 51 (0, 0)) (by (with_reducible repeat (first | refine blk_drewN ?_ _ | refine blk_drew ?_ | refine blk_alloc ?_ _)); exact BK868.out) hb); have n2_ := Aside0.mk (below_step (by repeat (first | (with_reducible first | exact HB.out | apply below_alloc | apply pw_below_drewN | apply below_drew1 | refine below_set ?_ GE867.out | refine below_set ?_ GE868.out) | exact HB.out)) hb); clear BK867; clear BK868; clear HB; have BK867 := n0_; have BK868 := n1_; have HB := n2_; clear n0_ n1_ n2_; (try clear hb); (try clear hb2); (try clear hk); (try clear hi)))
      go_meet
      case rel => exact ⟨_, (true), (by first | rfl | (simp; done) | (simp [*]; done)), H', ⟨by first | omega | exact Nat.le_refl _⟩, ⟨by (with_reducible repeat (first | refine blk_drewN ?_ _ | refine blk_drew ?_ | refine blk_alloc ?_ _)); exact BK867.out⟩, ⟨by (with_reducible repeat (first | refine blk_drewN ?_ _ | refine blk_drew ?_ | refine blk_alloc ?_ _)); exact BK868.out⟩, ⟨by repeat (first | (with_reducible first | exact HB.out | apply below_alloc | apply pw_below_drewN | apply below_drew1 | refine below_set ?_ GE867.out | refine below_set ?_ GE868.out) | exact HB.out)⟩⟩
  case rest =>
    clear HC4
    try clear c1
    try clear c2
    try clear p2
    try clear c3
    try clear c6
    try clear p6
    try clear c8
    try clear c10
    try clear c12
    try clear c12b0
    try clear c12b1
    try clear c14
    try clear c18
    try clear c21
    try clear hcz15_0
    try clear hcz15_1
    try clear hcz15_2
    try clear hcz17_0
    try clear hcz17_1
    try clear hcz17_2
    try clear hcz19_0
    try clear hcz19_1
    try clear hcz19_2
    try clear hcz22_0
    try clear hcz22_1
    try clear hcz22_2
    try clear hfz15_0
    try clear hfz15_1
    try clear hfz15_2
    try clear hfz17_0
    try clear hfz17_1
    try clear hfz17_2
    try clear hfz19_0
    try clear hfz19_1
    try clear hfz19_2
    try clear hfz22_0
    try clear hfz22_1
    try clear hfz22_2
    obtain ⟨kq, x27_3, rfl, HA, HJ3, BK867, BK868, HB⟩ := hcut
    cases kq with
    | zero => exact absurd HA.out (by simp [spec_TableOfBoard.j0])
    | succ kj3 =>
      have H := HA.out
      clear HA
      simp only [spec_TableOfBoard.j0] at H
      by_cases c24 : x27_3 = true
      · subst c24
        have H1 : (some (0, ([] : List Int), false)) = some (r1, r2, r3) := by rw [if_pos rfl] at H; exact H
        clear H
        have H := H1
        clear H1
        simp only [Option.some.injEq, Prod.mk.injEq] at H
        obtain ⟨rfl, rfl, rfl⟩ := H
        have hnb25 := NB868_867.out
        have hnc25 := NB867_868.out
        have hcz26_0 : wc.cell? ⟨gb868, 0, none⟩ = some (.int .i64 0) := (blk_cell BK868.out 0).trans rfl
        have hcz26_1 : wc.cell? ⟨gb868, 1, none⟩ = some (.slice none 0 0) := (blk_cell BK868.out 1).trans rfl
        have hfz26_0 := blk_frozen BK868.out 0
        have hfz26_1 := blk_frozen BK868.out 1
        go_wp2
        refine bodyPost_ret (results_ct rfl _ _ gb868 51 #[.int .i64 0, .slice none 0 0] (0, 0) _ rfl (by (with_reducible repeat (first | refine blk_drewN ?_ _ | refine blk_drew ?_ | refine blk_alloc ?_ _)); refine blk_put (cs := #[.int .i64 0, .slice none 0 0]) ?_ 1 _ rfl; (with_reducible repeat (first | refine blk_drewN ?_ _ | refine blk_drew ?_ | refine blk_alloc ?_ _)); refine blk_put (cs := #[.int .i64 0, .slice none 0 0]) ?_ 0 _ rfl; (with_reducible repeat (first | refine blk_drewN ?_ _ | refine blk_drew ?_ | refine blk_alloc ?_ _)); exact BK868.out) Try.underlying51 rfl (by kernel_rfl)) rfl ?_
        exact ⟨_, by first | rfl | (simp [errW_none, errW_some] <;> rfl) | (simp [*, errW_none, errW_some] <;> rfl), by first | exact Kd.R_nil _ _ _ _ _ | exact Kd.N_nil _ _ _ _ _ | exact Kd.V_nil _ _ _ _ _ | exact Kd.Q_nil _ _ _ _ _ | exact Kd.S_nil _ _ _ _ _, by repeat (first | (with_reducible first | exact HB.out | apply below_alloc | apply pw_below_drewN | apply below_drew1 | refine below_set ?_ GE867.out | refine below_set ?_ GE868.out) | exact HB.out)⟩
      · replace c24 := Bool.eq_false_iff.mpr c24
        subst c24
        have H1 : (spec_TableOfBoard.l0 kj3 a1 0 a0_0 a0_1 l0_2 a2 ([] : List Int)) = some (r1, r2, r3) := by rw [if_neg (show ¬ (false = true) by decide)] at H; exact H
        clear H
        have H := H1
        clear H1
        have H' := Aside0.mk H
        clear H
        go_wp2_with (first | ((with_reducible refine gate_dst (N := 8) rfl ?_); refine box_event ?hg (N := 8) ?hd (cs := #[.int .i64 0, .slice none 0 0]) (t := 51) ?hr ?_; (case hd => rfl); (case hg => rfl); (case hr => first | (go_simp; done) | (go_simp; rfl)); intro gb871 hg w27 hbox hb; have n0_ := Aside0.mk (blk_below (g := gb867) (o := .cells #[.int .i64 a0_0, .int .i64 a0_1, .slice A0_2 l0_2.length c0_2] 24 (0, 0)) (by (with_reducible repeat (first | refine blk_drewN ?_ _ | refine blk_drew ?_ | refine blk_alloc ?_ _)); exact BK867.out) hb); have n1_ := Aside0.mk (blk_below (g := gb868) (o := .cells #[.int .i64 0, .slice none 0 0] 51 (0, 0)) (by (with_reducible repeat (first | refine blk_drewN ?_ _ | refine blk_drew ?_ | refine blk_alloc ?_ _)); exact BK868.out) hb); have n2_ := Aside0.mk (below_step (by repeat (first | (with_reducible first | exact HB.out | apply below_alloc | apply pw_below_drewN | apply below_drew1 | refine below_set ?_ GE867.out | refine below_set ?_ GE868.out) | exact HB.out)) hb); have n3_ := Aside0.mk (hbox); have n4_ := Aside0.mk ((by rw [hg]; exact (below_size (by repeat (first | (with_reducible first | exact HB.out | apply below_alloc | apply pw_below_drewN | apply below_drew1 | refine below_set ?_ GE867.out | refine below_set ?_ GE868.out) | exact HB.out))) : w.heap.size ≤ gb871)); have n5_ := Aside0.mk ((by rw [hg]; exact (below_size (by repeat (first | (with_reducible first | exact HB.out | apply below_alloc | apply pw_below_drewN | apply below_drew1 | refine below_set ?_ GE867.out | refine below_set ?_ GE868.out) | exact HB.out))) : w.heap.size ≤ gb871)); have n6_ := Aside0.mk ((by rw [hg]; exact Nat.ne_of_lt (blk_lt (g := gb867) (o := .cells #[.int .i64 a0_0, .int .i64 a0_1, .slice A0_2 l0_2.length c0_2] 24 (0, 0)) (by (with_reducible repeat (first | refine blk_drewN ?_ _ | refine blk_drew ?_ | refine blk_alloc ?_ _)); exact BK867.out)) : gb867 ≠ gb871)); have n7_ := Aside0.mk ((by rw [hg]; exact Nat.ne_of_gt (blk_lt (g := gb867) (o := .cells #[.int .i64 a0_0, .int .i64 a0_1, .slice A0_2 l0_2.length c0_2] 24 (0, 0)) (by (with_reducible repeat (first | refine blk_drewN ?_ _ | refine blk_drew ?_ | refine blk_alloc ?_ _)); exact BK867.out)) : gb871 ≠ gb867)); have n8_ := Aside0.mk ((by rw [hg]; exact Nat.ne_of_lt (blk_lt (g := gb868) (o := .cells #[.int .i64 0, .slice none 0 0] 51 (0, 0)) (by (with_reducible repeat (first | refine blk_drewN ?_ _ | refine blk_drew ?_ | refine blk_alloc ?_ _)); exact BK868.out)) : gb868 ≠ gb871)); have n9_ := Aside0.mk ((by rw [hg]; exact Nat.ne_of_gt (blk_lt (g := gb868) (o := .cells #[.int .i64 0, .slice none 0 0] 51 (0, 0)) (by (with_reducible repeat (first | refine blk_drewN ?_ _ | refine blk_drew ?_ | refine blk_alloc ?_ _)); exact BK868.out)) : gb871 ≠ gb868)); clear BK867; clear BK868; clear HB; have BK867 := n0_; have BK868 := n1_; have HB := n2_; have BK871 := n3_; have GW871 := n4_; have GE871 := n5_; have NB867_871 := n6_; have NB871_867 := n7_; have NB868_871 := n8_; have NB871_868 := n9_; clear n0_ n1_ n2_ n3_ n4_ n5_ n6_ n7_ n8_ n9_; clear hb hbox hg; have hnb28 := NB871_867.out; have hnc28 := NB867_871.out; have hnb29 := NB871_868.out; have hnc29 := NB868_871.out; have hcz30_0 : w27.cell? ⟨gb871, 0, none⟩ = some (.int .i64 0) := (blk_cell BK871.out 0).trans rfl; have hcz30_1 : w27.cell? ⟨gb871, 1, none⟩ = some (.slice none 0 0) := (blk_cell BK871.out 1).trans rfl; have hfz30_0 := blk_frozen BK871.out 0; have hfz30_1 := blk_frozen BK871.out 1))
        go_loopg [9] kj3 (fun kq v9 w' => ∃ (x9_2 : Int) (x869000_2 : Int) (x872001_2 : List Int) (u872001 : Value), v9 = .int .i64 x9_2 ∧ Aside0 (spec_TableOfBoard.l0 kq a1 x9_2 a0_0 a0_1 l0_2 a2 x872001_2 = some (r1, r2, r3)) ∧ Aside0 (kq ≤ kj3) ∧ Aside0 (Kd.R (Kd.int .i64) 3 w' w.heap.size (fun _ => True) u872001 x872001_2) ∧ Aside0 (w'.heap[gb867]? = some (.cells #[.int .i64 a0_0, .int .i64 a0_1, (.slice A0_2 l0_2.length c0_2)] 24 (0, 0))) ∧ Aside0 (w'.heap[gb868]? = some (.cells #[.int .i64 x869000_2, (.slice none 0 0)] 51 (0, 0))) ∧ Aside0 (w'.heap[gb871]? = some (.cells #[.int .i64 a2, u872001] 51 (0, 0))) ∧ Aside0 (Below w.heap.size w w'))
        case atStart => exact ⟨(0), (0), (([] : List Int)), (.slice none 0 0), (by first | rfl | (simp; done) | (simp [*]; done)), H', ⟨Nat.le_refl _⟩, ⟨by first | exact Kd.R_nil _ _ _ _ _ | exact Kd.N_nil _ _ _ _ _ | exact Kd.V_nil _ _ _ _ _ | exact Kd.Q_nil _ _ _ _ _ | exact Kd.S_nil _ _ _ _ _⟩, ⟨by (with_reducible repeat (first | refine blk_drewN ?_ _ | refine blk_drew ?_ | refine blk_alloc ?_ _)); refine blk_far ?_ NB867_871.out _; (with_reducible repeat (first | refine blk_drewN ?_ _ | refine blk_drew ?_ | refine blk_alloc ?_ _)); refine blk_far ?_ NB867_871.out _; (with_reducible repeat (first | refine blk_drewN ?_ _ | refine blk_drew ?_ | refine blk_alloc ?_ _)); exact BK867.out⟩, ⟨by (with_reducible repeat (first | refine blk_drewN ?_ _ | refine blk_drew ?_ | refine blk_alloc ?_ _)); refine blk_far ?_ NB868_871.out _; (with_reducible repeat (first | refine blk_drewN ?_ _ | refine blk_drew ?_ | refine blk_alloc ?_ _)); refine blk_far ?_ NB868_871.out _; (with_reducible repeat (first | refine blk_drewN ?_ _ | refine blk_drew ?_ | refine blk_alloc ?_ _)); exact BK868.out⟩, ⟨by (with_reducible repeat (first | refine blk_drewN ?_ _ | refine blk_drew ?_ | refine blk_alloc ?_ _)); refine blk_put (cs := #[.int .i64 a2, .slice none 0 0]) ?_ 1 _ rfl; (with_reducible repeat (first | refine blk_drewN ?_ _ | refine blk_drew ?_ | refine blk_alloc ?_ _)); refine blk_put (cs := #[.int .i64 0, .slice none 0 0]) ?_ 0 _ rfl; (with_reducible repeat (first | refine blk_drewN ?_ _ | refine blk_drew ?_ | refine blk_alloc ?_ _)); exact BK871.out⟩, ⟨by repeat (first | (with_reducible first | exact HB.out | apply below_alloc | apply pw_below_drewN | apply below_drew1 | refine below_set ?_ GE867.out | refine below_set ?_ GE868.out | refine below_set ?_ GE871.out) | exact HB.out)⟩⟩
        case round =>
          clear H'
          try clear c1
          try clear c2
          try clear p2
          try clear c3
          try clear c6
          try clear p6
          try clear c8
          try clear c10
          try clear c12
          try clear c12b0
          try clear c12b1
          try clear c14
          try clear c18
          try clear c21
          try clear c24
          try clear c25
          try clear c28
          try clear c29
          try clear hcz15_0
          try clear hcz15_1
          try clear hcz15_2
          try clear hcz17_0
          try clear hcz17_1
          try clear hcz17_2
          try clear hcz19_0
          try clear hcz19_1
          try clear hcz19_2
          try clear hcz22_0
          try clear hcz22_1
          try clear hcz22_2
          try clear hcz26_0
          try clear hcz26_1
          try clear hcz30_0
          try clear hcz30_1
          try clear hfz15_0
          try clear hfz15_1
          try clear hfz15_2
          try clear hfz17_0
          try clear hfz17_1
          try clear hfz17_2
          try clear hfz19_0
          try clear hfz19_1
          try clear hfz19_2
          try clear hfz22_0
          try clear hfz22_1
          try clear hfz22_2
          try clear hfz26_0
          try clear hfz26_1
          try clear hfz30_0
          try clear hfz30_1
          try clear p2
          try clear p6
          obtain ⟨x9_2, x869000_2, x872001_2, u872001, rfl, HA, HK2, HO_872001, BK867, BK868, BK871, HB⟩ := hrel
          cases gk with
          | zero => exact absurd HA.out (by simp [spec_TableOfBoard.l0])
          | succ k2 =>
            have H := HA.out
            clear HA
            simp only [spec_TableOfBoard.l0] at H
            by_cases c31 : x9_2 < a0_1
            · rw [if_pos c31] at H
              have c31b0 : decide (x9_2 < a0_1) = true := decide_eq_true c31
              clear c31
              replace H := Option.bind_eq_some_iff.mp H
              obtain ⟨⟨t872, t873⟩, A320, H⟩ := H
              replace H : (if t873 = true then (if x872001_2.length < 17592186044416 then (spec_TableOfBoard.l0 k2 a1 (wrap64 (x9_2 + 1)) a0_0 a0_1 l0_2 a2 (x872001_2 ++ [t872])) else (none)) else (some (0, ([] : List Int), false))) = some (r1, r2, r3) := H
              have A32 := Aside0.mk A320
              clear A320
              by_cases c33 : t873 = true
              · subst c33
                have H1 : (if x872001_2.length < 17592186044416 then (spec_TableOfBoard.l0 k2 a1 (wrap64 (x9_2 + 1)) a0_0 a0_1 l0_2 a2 (x872001_2 ++ [t872])) else (none)) = some (r1, r2, r3) := by rw [if_pos rfl] at H; exact H
                clear H
                have H := H1
                clear H1
                by_cases c34 : x872001_2.length < 17592186044416
                · rw [if_pos c34] at H
                  have LMc34 := Aside0.mk c34
                  clear c34
                  obtain ⟨y874, hy874⟩ : ∃ y_ : List Int, y_ = (x872001_2 ++ [t872]) := ⟨_, rfl⟩
                  replace H : (spec_TableOfBoard.l0 k2 a1 (wrap64 (x9_2 + 1)) a0_0 a0_1 l0_2 a2 y874) = some (r1, r2, r3) := by first | (rw [hy874]; with_reducible exact H) | (have H2_ := (Option.bind_some _ _).symm.trans H; rw [hy874]; with_reducible exact H2_) | (have H2_ := (Option.bind_some _ _).symm.trans H; with_reducible exact H2_) | with_reducible exact H | (rw [hy874]; exact H) | exact H
                  have Ny874 := Aside0.mk hy874
                  clear hy874
                  have H' := Aside0.mk H
                  clear H
                  have hnb35 := NB867_868.out
                  have hnc35 := NB868_867.out
                  have hnb36 := NB867_871.out
                  have hnc36 := NB871_867.out
                  have hcz37_0 : wr.cell? ⟨gb867, 0, none⟩ = some (.int .i64 a0_0) := (blk_cell BK867.out 0).trans rfl
                  have hcz37_1 : wr.cell? ⟨gb867, 1, none⟩ = some (.int .i64 a0_1) := (blk_cell BK867.out 1).trans rfl
                  have hcz37_2 : wr.cell? ⟨gb867, 2, none⟩ = some (.slice A0_2 l0_2.length c0_2) := (blk_cell BK867.out 2).trans rfl
                  have hfz37_0 := blk_frozen BK867.out 0
                  have hfz37_1 := blk_frozen BK867.out 1
                  have hfz37_2 := blk_frozen BK867.out 2
                  go_wp2_with (first | ((with_reducible refine gate_callee (f := 33) rfl ?_); refine goesL_ (some 41) rfl rfl Try.func33 (by kernel_rfl) rfl #[.agg #[.int .i64 a0_0, .int .i64 a0_1, .slice A0_2 l0_2.length c0_2], .int .i64 a1, .int .i64 x9_2] rfl (by (try simp only [List.map_toArray, List.map_cons, List.map_nil]); first | done | rfl | (simp only [List.length_drop, List.length_take]; rfl)) ?_; (with_reducible refine (spec_ReadEntry.calls k2 a0_0 a0_1 _ _ l0_2 a1 x9_2 t872 true _ ?side1 ?side2 A32.out).mono ?_); (case side1 => repeat (first | exact (Kd.C_below HR0_2.out HB.out) | (with_reducible refine Kd.C_alloc ?_ _) | (with_reducible refine Kd.C_drewN ?_ _) | (with_reducible refine Kd.C_drew ?_))); (case side2 => exact HC0_2.out); rintro e w38 ⟨rfl, hb⟩; refine ⟨_, rfl, ?_⟩; have n0_ := Aside0.mk (Kd.R_below (by (with_reducible repeat (first | apply Kd.R_alloc | apply Kd.R_drewN | apply Kd.R_drew)); exact HO_872001.out) hb); have n1_ := Aside0.mk (blk_below (g := gb867) (o := .cells #[.int .i64 a0_0, .int .i64 a0_1, .slice A0_2 l0_2.length c0_2] 24 (0, 0)) (by (with_reducible repeat (first | refine blk_drewN ?_ _ | refine blk_drew ?_ | refine blk_alloc ?_ _)); exact BK867.out) hb); have n2_ := Aside0.mk (blk_below (g := gb868) (o := .cells #[.int .i64 x869000_2, .slice none 0 0] 51 (0, 0)) (by (with_reducible repeat (first | refine blk_drewN ?_ _ | refine blk_drew ?_ | refine blk_alloc ?_ _)); exact BK868.out) hb); have n3_ := Aside0.mk (blk_below (g := gb871) (o := .cells #[.int .i64 a2, u872001] 51 (0, 0)) (by (with_reducible repeat (first | refine blk_drewN ?_ _ | refine blk_drew ?_ | refine blk_alloc ?_ _)); exact BK871.out) hb); have n4_ := Aside0.mk (below_step (by repeat (first | (with_reducible first | exact HB.out | apply below_alloc | apply pw_below_drewN | apply below_drew1 | refine below_set ?_ GE867.out | refine below_set ?_ GE868.out | refine below_set ?_ GE871.out) | exact HB.out)) hb); clear HO_872001; clear BK867; clear BK868; clear BK871; clear HB; have HO_872001 := n0_; have BK867 := n1_; have BK868 := n2_; have BK871 := n3_; have HB := n4_; clear n0_ n1_ n2_ n3_ n4_; (try clear hb); (try clear hb2); (try clear hk); (try clear hi); have hnb39 := NB871_868.out; have hnc39 := NB868_871.out; have hcz40_0 : w38.cell? ⟨gb871, 0, none⟩ = some (.int .i64 a2) := (blk_cell BK871.out 0).trans rfl; have hcz40_1 : w38.cell? ⟨gb871, 1, none⟩ = some (u872001) := (blk_cell BK871.out 1).trans rfl; have hfz40_0 := blk_frozen BK871.out 0; have hfz40_1 := blk_frozen BK871.out 1) | ((with_reducible refine gate_builtin (b := .append) (xs := #[.tmp 48, .tmp 50]) rfl ?_); at_builtin; refine Kd.R_append (Kd.int .i64) (w0 := w) w.heap.size rfl (.tmp 48) (.tmp 50) 39 3 (.int .i64 0) 8 rfl Try.underlying39 info3 rfl (by decide) (by omega) u872001 x872001_2 t872 [.int .i64 t872] (fun _ => True) (fun _ => False) rfl rfl ?aP (fun _ hk => hk.elim) ?aF ?aO ?aB ?aS ?aL ?_; (case aP => exact rfl); (case aB => exact (by repeat (first | (with_reducible first | exact HB.out | apply below_alloc | apply pw_below_drewN | apply below_drew1 | refine below_set ?_ GE867.out | refine below_set ?_ GE868.out | refine below_set ?_ GE871.out) | exact HB.out))); (case aF => exact (fun _ _ => trivial)); (case aO => exact (by (with_reducible repeat (first | apply Kd.R_alloc | apply Kd.R_drewN | apply Kd.R_drew)); exact HO_872001.out)); (case aS => exact (below_size (by repeat (first | (with_reducible first | exact HB.out | apply below_alloc | apply pw_below_drewN | apply below_drew1 | refine below_set ?_ GE867.out | refine below_set ?_ GE868.out | refine below_set ?_ GE871.out) | exact HB.out)))); (case aL => have := LMc34.out; omega); intro v875 w41 ho hb hg hat; rw [← Ny874.out] at ho; have n0_ := Aside0.mk (blk_grown (g := gb867) (o := .cells #[.int .i64 a0_0, .int .i64 a0_1, .slice A0_2 l0_2.length c0_2] 24 (0, 0)) (by (with_reducible repeat (first | refine blk_drewN ?_ _ | refine blk_drew ?_ | refine blk_alloc ?_ _)); exact BK867.out) hg (Kd.R_ne HO_872001.out BK867.out (by decide))); have n1_ := Aside0.mk (blk_grown (g := gb868) (o := .cells #[.int .i64 x869000_2, .slice none 0 0] 51 (0, 0)) (by (with_reducible repeat (first | refine blk_drewN ?_ _ | refine blk_drew ?_ | refine blk_alloc ?_ _)); exact BK868.out) hg (Kd.R_ne HO_872001.out BK868.out (by decide))); have n2_ := Aside0.mk (blk_grown (g := gb871) (o := .cells #[.int .i64 a2, u872001] 51 (0, 0)) (by (with_reducible repeat (first | refine blk_drewN ?_ _ | refine blk_drew ?_ | refine blk_alloc ?_ _)); exact BK871.out) hg (Kd.R_ne HO_872001.out BK871.out (by decide))); have n3_ := Aside0.mk (hb); have n4_ := Aside0.mk (ho); clear BK867; clear BK868; clear BK871; clear HB; clear HO_872001; have BK867 := n0_; have BK868 := n1_; have BK871 := n2_; have HB := n3_; have HO876 := n4_; clear n0_ n1_ n2_ n3_ n4_; clear ho hb hg hat; obtain ⟨Ao42, co42, eo42⟩ := Kd.R_slice HO876.out; subst eo42; have hcz43_0 : w41.cell? ⟨gb871, 0, none⟩ = some (.int .i64 a2) := (blk_cell BK871.out 0).trans rfl; have hcz43_1 : w41.cell? ⟨gb871, 1, none⟩ = some (u872001) := (blk_cell BK871.out 1).trans rfl; have hfz43_0 := blk_frozen BK871.out 0; have hfz43_1 := blk_frozen BK871.out 1))
                  go_roundg k2
                  case measure => have := HJ3.out; have := HK2.out; omega
                  case rel => exact ⟨(wrap64 (x9_2 + 1)), (x869000_2), (y874), (.slice Ao42 y874.length co42), (by first | rfl | (simp; done) | (simp [*]; done)), H', ⟨by have := HJ3.out; have := HK2.out; omega⟩, ⟨by (with_reducible repeat (first | apply Kd.R_alloc | apply Kd.R_drewN | apply Kd.R_drew)); exact Kd.R_mono (Kd.R_far (p := ⟨gb871, 1, none⟩) (Kd.R_types HO876.out BK871.out (by decide)) (fun _ hk => hk.2) (.slice Ao42 y874.length co42)) (fun _ hk => trivial)⟩, ⟨by (with_reducible repeat (first | refine blk_drewN ?_ _ | refine blk_drew ?_ | refine blk_alloc ?_ _)); refine blk_far ?_ NB867_871.out _; (with_reducible repeat (first | refine blk_drewN ?_ _ | refine blk_drew ?_ | refine blk_alloc ?_ _)); exact BK867.out⟩, ⟨by (with_reducible repeat (first | refine blk_drewN ?_ _ | refine blk_drew ?_ | refine blk_alloc ?_ _)); refine blk_far ?_ NB868_871.out _; (with_reducible repeat (first | refine blk_drewN ?_ _ | refine blk_drew ?_ | refine blk_alloc ?_ _)); exact BK868.out⟩, ⟨by (with_reducible repeat (first | refine blk_drewN ?_ _ | refine blk_drew ?_ | refine blk_alloc ?_ _)); refine blk_put (cs := #[.int .i64 a2, u872001]) ?_ 1 _ rfl; (with_reducible repeat (first | refine blk_drewN ?_ _ | refine blk_drew ?_ | refine blk_alloc ?_ _)); exact BK871.out⟩, ⟨by repeat (first | (with_reducible first | exact HB.out | apply below_alloc | apply pw_below_drewN | apply below_drew1 | refine below_set ?_ GE867.out | refine below_set ?_ GE868.out | refine below_set ?_ GE871.out) | exact HB.out)⟩⟩
                · rw [if_neg c34] at H
                  exact absurd H (by simp)
              · replace c33 := Bool.eq_false_iff.mpr c33
                subst c33
                have H1 : (some (0, ([] : List Int), false)) = some (r1, r2, r3) := by rw [if_neg (show ¬ (false = true) by decide)] at H; exact H
                clear H
                have H := H1
                clear H1
                simp only [Option.some.injEq, Prod.mk.injEq] at H
                obtain ⟨rfl, rfl, rfl⟩ := H
                have hnb44 := NB867_868.out
                have hnc44 := NB868_867.out
                have hnb45 := NB867_871.out
                have hnc45 := NB871_867.out
                have hcz46_0 : wr.cell? ⟨gb867, 0, none⟩ = some (.int .i64 a0_0) := (blk_cell BK867.out 0).trans rfl
                have hcz46_1 : wr.cell? ⟨gb867, 1, none⟩ = some (.int .i64 a0_1) := (blk_cell BK867.out 1).trans rfl
                have hcz46_2 : wr.cell? ⟨gb867, 2, none⟩ = some (.slice A0_2 l0_2.length c0_2) := (blk_cell BK867.out 2).trans rfl
                have hfz46_0 := blk_frozen BK867.out 0
                have hfz46_1 := blk_frozen BK867.out 1
                have hfz46_2 := blk_frozen BK867.out 2
                go_wp2_with (first | ((with_reducible refine gate_callee (f := 33) rfl ?_); refine goesL_ (some 41) rfl rfl Try.func33 (by kernel_rfl) rfl #[.agg #[.int .i64 a0_0, .int .i64 a0_1, .slice A0_2 l0_2.length c0_2], .int .i64 a1, .int .i64 x9_2] rfl (by (try simp only [List.map_toArray, List.map_cons, List.map_nil]); first | done | rfl | (simp only [List.length_drop, List.length_take]; rfl)) ?_; (with_reducible refine (spec_ReadEntry.calls k2 a0_0 a0_1 _ _ l0_2 a1 x9_2 t872 false _ ?side1 ?side2 A32.out).mono ?_); (case side1 => repeat (first | exact (Kd.C_below HR0_2.out HB.out) | (with_reducible refine Kd.C_alloc ?_ _) | (with_reducible refine Kd.C_drewN ?_ _) | (with_reducible refine Kd.C_drew ?_))); (case side2 => exact HC0_2.out); rintro e w47 ⟨rfl, hb⟩; refine ⟨_, rfl, ?_⟩; have n0_ := Aside0.mk (Kd.R_below (by (with_reducible repeat (first | apply Kd.R_alloc | apply Kd.R_drewN | apply Kd.R_drew)); exact HO_872001.out) hb); have n1_ := Aside0.mk (blk_below (g := gb867) (o := .cells #[.int .i64 a0_0, .int .i64 a0_1, .slice A0_2 l0_2.length c0_2] 24 (0, 0)) (by (with_reducible repeat (first | refine blk_drewN ?_ _ | refine blk_drew ?_ | refine blk_alloc ?_ _)); exact BK867.out) hb); have n2_ := Aside0.mk (blk_below (g := gb868) (o := .cells #[.int .i64 x869000_2, .slice none 0 0] 51 (0, 0)) (by (with_reducible repeat (first | refine blk_drewN ?_ _ | refine blk_drew ?_ | refine blk_alloc ?_ _)); exact BK868.out) hb); have n3_ := Aside0.mk (blk_below (g := gb871) (o := .cells #[.int .i64 a2, u872001] 51 (0, 0)) (by (with_reducible repeat (first | refine blk_drewN ?_ _ | refine blk_drew ?_ | refine blk_alloc ?_ _)); exact BK871.out) hb); have n4_ := Aside0.mk (below_step (by repeat (first | (with_reducible first | exact HB.out | apply below_alloc | apply pw_below_drewN | apply below_drew1 | refine below_set ?_ GE867.out | refine below_set ?_ GE868.out | refine below_set ?_ GE871.out) | exact HB.out)) hb); clear HO_872001; clear BK867; clear BK868; clear BK871; clear HB; have HO_872001 := n0_; have BK867 := n1_; have BK868 := n2_; have BK871 := n3_; have HB := n4_; clear n0_ n1_ n2_ n3_ n4_; (try clear hb); (try clear hb2); (try clear hk); (try clear hi); have hnb48 := NB868_871.out; have hnc48 := NB871_868.out; have hcz49_0 : w47.cell? ⟨gb868, 0, none⟩ = some (.int .i64 x869000_2) := (blk_cell BK868.out 0).trans rfl; have hcz49_1 : w47.cell? ⟨gb868, 1, none⟩ = some (.slice none 0 0) := (blk_cell BK868.out 1).trans rfl; have hfz49_0 := blk_frozen BK868.out 0; have hfz49_1 := blk_frozen BK868.out 1))
                refine bodyPost_ret (results_ct rfl _ _ gb868 51 #[.int .i64 0, .slice none 0 0] (0, 0) _ rfl (by (with_reducible repeat (first | refine blk_drewN ?_ _ | refine blk_drew ?_ | refine blk_alloc ?_ _)); refine blk_put (cs := #[.int .i64 0, .slice none 0 0]) ?_ 1 _ rfl; (with_reducible repeat (first | refine blk_drewN ?_ _ | refine blk_drew ?_ | refine blk_alloc ?_ _)); refine blk_put (cs := #[.int .i64 x869000_2, .slice none 0 0]) ?_ 0 _ rfl; (with_reducible repeat (first | refine blk_drewN ?_ _ | refine blk_drew ?_ | refine blk_alloc ?_ _)); exact BK868.out) Try.underlying51 rfl (by kernel_rfl)) rfl ?_
                exact ⟨_, by first | rfl | (simp [errW_none, errW_some] <;> rfl) | (simp [*, errW_none, errW_some] <;> rfl), by first | exact Kd.R_nil _ _ _ _ _ | exact Kd.N_nil _ _ _ _ _ | exact Kd.V_nil _ _ _ _ _ | exact Kd.Q_nil _ _ _ _ _ | exact Kd.S_nil _ _ _ _ _, by repeat (first | (with_reducible first | exact HB.out | apply below_alloc | apply pw_below_drewN | apply below_drew1 | refine below_set ?_ GE867.out | refine below_set ?_ GE868.out | refine below_set ?_ GE871.out) | exact HB.out)⟩
            · rw [if_neg c31] at H
              have c31b0 : decide (x9_2 < a0_1) = false := decide_eq_false c31
              clear c31
              simp only [Option.some.injEq, Prod.mk.injEq] at H
              obtain ⟨rfl, rfl, rfl⟩ := H
              have hnb50 := NB867_868.out
              have hnc50 := NB868_867.out
              have hnb51 := NB867_871.out
              have hnc51 := NB871_867.out
              have hcz52_0 : wr.cell? ⟨gb867, 0, none⟩ = some (.int .i64 a0_0) := (blk_cell BK867.out 0).trans rfl
              have hcz52_1 : wr.cell? ⟨gb867, 1, none⟩ = some (.int .i64 a0_1) := (blk_cell BK867.out 1).trans rfl
              have hcz52_2 : wr.cell? ⟨gb867, 2, none⟩ = some (.slice A0_2 l0_2.length c0_2) := (blk_cell BK867.out 2).trans rfl
              have hfz52_0 := blk_frozen BK867.out 0
              have hfz52_1 := blk_frozen BK867.out 1
              have hfz52_2 := blk_frozen BK867.out 2
              have hnb53 := NB871_868.out
              have hnc53 := NB868_871.out
              have hcz54_0 : wr.cell? ⟨gb871, 0, none⟩ = some (.int .i64 a2) := (blk_cell BK871.out 0).trans rfl
              have hcz54_1 : wr.cell? ⟨gb871, 1, none⟩ = some (u872001) := (blk_cell BK871.out 1).trans rfl
              have hfz54_0 := blk_frozen BK871.out 0
              have hfz54_1 := blk_frozen BK871.out 1
              have hcz55_0 : wr.cell? ⟨gb868, 0, none⟩ = some (.int .i64 x869000_2) := (blk_cell BK868.out 0).trans rfl
              have hcz55_1 : wr.cell? ⟨gb868, 1, none⟩ = some (.slice none 0 0) := (blk_cell BK868.out 1).trans rfl
              have hfz55_0 := blk_frozen BK868.out 0
              have hfz55_1 := blk_frozen BK868.out 1
              obtain ⟨Ao56, co56, eo56⟩ := Kd.R_slice HO_872001.out
              subst eo56
              go_wp2
              refine bodyPost_ret (results_ct rfl _ _ gb868 51 #[.int .i64 a2, .slice Ao56 x872001_2.length co56] (0, 0) _ rfl (by (with_reducible repeat (first | refine blk_drewN ?_ _ | refine blk_drew ?_ | refine blk_alloc ?_ _)); refine blk_put (cs := #[.int .i64 a2, .slice none 0 0]) ?_ 1 _ rfl; (with_reducible repeat (first | refine blk_drewN ?_ _ | refine blk_drew ?_ | refine blk_alloc ?_ _)); refine blk_put (cs := #[.int .i64 x869000_2, .slice none 0 0]) ?_ 0 _ rfl; (with_reducible repeat (first | refine blk_drewN ?_ _ | refine blk_drew ?_ | refine blk_alloc ?_ _)); exact BK868.out) Try.underlying51 rfl (by kernel_rfl)) rfl ?_
              exact ⟨_, by first | rfl | (simp [errW_none, errW_some] <;> rfl) | (simp [*, errW_none, errW_some] <;> rfl), by (with_reducible repeat (first | apply Kd.R_alloc | apply Kd.R_drewN | apply Kd.R_drew)); exact Kd.R_mono (Kd.R_far (p := ⟨gb868, 1, none⟩) (Kd.R_far (p := ⟨gb868, 0, none⟩) (Kd.R_types HO_872001.out BK868.out (by decide)) (fun _ hk => hk.2) (.int .i64 a2)) (fun _ hk => hk.2) (.slice Ao56 x872001_2.length co56)) (fun _ hk => trivial), by repeat (first | (with_reducible first | exact HB.out | apply below_alloc | apply pw_below_drewN | apply below_drew1 | refine below_set ?_ GE867.out | refine below_set ?_ GE868.out | refine below_set ?_ GE871.out) | exact HB.out)⟩

end Go.Proofs.Ytcilbmbgdcepgaa.P
