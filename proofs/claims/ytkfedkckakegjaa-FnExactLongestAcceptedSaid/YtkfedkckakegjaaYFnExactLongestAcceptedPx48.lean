-- PRINTED by print.py (a twelfth state) out of the translation. Not trusted: Lean checks it.
import Derived.Test.YtkfedkckakegjaaZFnExactLongestAccepted0
import Derived.Test.YtkfedkckakegjaaYFnExactLongestAcceptedPx14
import Derived.Test.YtkfedkckakegjaaYFnExactLongestAcceptedPx47
namespace Go.Proofs.Ytkfedkckakegjaa.P
open Go.RowKit Go.Proofs.YtkfedkckakegjaaW.PrintWords Go.Proofs.YtkfedkckakegjaaW.PrintLast Go.Proofs.YtkfedkckakegjaaW.PrintMore
attribute [local go_sem] max2_int min2_int max_two min_two max_three min_three max_four min_four   -- for this text's walks alone
set_option linter.unusedVariables false
set_option linter.unusedSimpArgs false

/-! ### spec_eqLengths: function 60 -/
mutual
def spec_eqLengths.l0 : Nat → List Bool → List Bool → List Bool → Int → Int → List (List Int) → List Int → Option (List Bool)
  | 0, _, _, _, _, _, _, _ => none
  | k + 1, x3, x4, x5, x6, x604000, x604001, x604002 => if x6 ≤ (x604001.length : Int) then (if 0 ≤ (x604001.length : Int) then (if ((x604001.length : Int) : Int).toNat ≤ 281474976710656 then (spec_eqLengths.l1 k x3 x5 x6 false (List.replicate ((x604001.length : Int) : Int).toNat false) x4 (x4.length : Int) 0 x604000 x604001 x604002) else (none)) else (none)) else (spec_eqLengths.l3 k x5 false x4 (x4.length : Int) 0)
def spec_eqLengths.l1 : Nat → List Bool → List Bool → Int → Bool → List Bool → List Bool → Int → Int → Int → List (List Int) → List Int → Option (List Bool)
  | 0, _, _, _, _, _, _, _, _, _, _, _ => none
  | k + 1, x3, x5, x6, x7, x8, x38, x39, x40, x604000, x604001, x604002 => if x40 < x39 then (if 0 ≤ x40 then (if x40 < (x38.length : Int) then (if rdOf false x38 x40 = true then (if x7 = true then (spec_eqLengths.j2 k x3 x5 x6 true x8 x40 x38 x39 x40 x604000 x604001 x604002) else ((spec_l1Has.f k x604002 x40).bind fun t619 => (spec_eqLengths.j2 k x3 x5 x6 t619 x8 x40 x38 x39 x40 x604000 x604001 x604002))) else (spec_eqLengths.l1 k x3 x5 x6 x7 x8 x38 x39 (wrap64 (x40 + 1)) x604000 x604001 x604002)) else (none)) else (none)) else (if x5.length < 140737488355328 then (spec_eqLengths.l0 k x3 x8 (x5 ++ [x7]) (wrap64 (x6 + 1)) x604000 x604001 x604002) else (none))
def spec_eqLengths.j2 : Nat → List Bool → List Bool → Int → Bool → List Bool → Int → List Bool → Int → Int → Int → List (List Int) → List Int → Option (List Bool)
  | 0, _, _, _, _, _, _, _, _, _, _, _, _ => none
  | k + 1, x3, x5, x6, x7, x8, x9, x38, x39, x40, x604000, x604001, x604002 => if 0 ≤ x9 then (if x9 < (x604001.length : Int) then (spec_eqLengths.l2 k x3 x5 x6 x7 x8 x38 x39 x40 (rd_L1 x604001 x9) ((rd_L1 x604001 x9).length : Int) 0 x604000 x604001 x604002) else (none)) else (none)
def spec_eqLengths.l2 : Nat → List Bool → List Bool → Int → Bool → List Bool → List Bool → Int → Int → List Int → Int → Int → Int → List (List Int) → List Int → Option (List Bool)
  | 0, _, _, _, _, _, _, _, _, _, _, _, _, _, _ => none
  | k + 1, x3, x5, x6, x7, x8, x38, x39, x40, x58, x59, x60, x604000, x604001, x604002 => if x60 < x59 then (if 0 ≤ x60 then (if x60 < (x58.length : Int) then (if 0 ≤ (rd x58 x60) then (if (rd x58 x60) < (x8.length : Int) then (if rdOf false x8 (rd x58 x60) = true then (spec_eqLengths.l2 k x3 x5 x6 x7 (x8.set ((rd x58 x60) : Int).toNat true) x38 x39 x40 x58 x59 (wrap64 (x60 + 1)) x604000 x604001 x604002) else (if (rd x58 x60) < (x3.length : Int) then (spec_eqLengths.l2 k x3 x5 x6 x7 (x8.set ((rd x58 x60) : Int).toNat (rdOf false x3 (rd x58 x60))) x38 x39 x40 x58 x59 (wrap64 (x60 + 1)) x604000 x604001 x604002) else (none))) else (none)) else (none)) else (none)) else (none)) else (spec_eqLengths.l1 k x3 x5 x6 x7 x8 x38 x39 (wrap64 (x40 + 1)) x604000 x604001 x604002)
def spec_eqLengths.l3 : Nat → List Bool → Bool → List Bool → Int → Int → Option (List Bool)
  | 0, _, _, _, _, _ => none
  | k + 1, x5, x13, x84, x85, x86 => if x86 < x85 then (if 0 ≤ x86 then (if x86 < (x84.length : Int) then (if x13 = true then (spec_eqLengths.l3 k x5 true x84 x85 (wrap64 (x86 + 1))) else (spec_eqLengths.l3 k x5 (rdOf false x84 x86) x84 x85 (wrap64 (x86 + 1)))) else (none)) else (none)) else (if x5.length < 140737488355328 then (some (x5 ++ [x13])) else (none))
end
def spec_eqLengths.f (k : Nat) (a0_0 : Int) (l0_1 : List (List Int)) (l0_2 : List Int) : Option (List Bool) := (spec_eqUseful.f k a0_0 l0_1 l0_2).bind fun t604 => (if 0 ≤ (l0_1.length : Int) then (if ((l0_1.length : Int) : Int).toNat ≤ 281474976710656 then ((some (List.replicate ((l0_1.length : Int) : Int).toNat false : List Bool)).bind fun y607 => (if 0 < (t604.length : Int) then (if 0 < (y607.length : Int) then (spec_eqLengths.l0 k t604 (y607.set (0 : Int).toNat (rdOf false t604 0)) ([] : List Bool) 0 a0_0 l0_1 l0_2) else (none)) else (none))) else (none)) else (none))
theorem spec_eqLengths.mono_l : ∀ k, (∀ y0 y1 y2 y3 y4 y5 y6, LeO (spec_eqLengths.l0 k y0 y1 y2 y3 y4 y5 y6) (spec_eqLengths.l0 (k + 1) y0 y1 y2 y3 y4 y5 y6)) ∧ (∀ y0 y1 y2 y3 y4 y5 y6 y7 y8 y9 y10, LeO (spec_eqLengths.l1 k y0 y1 y2 y3 y4 y5 y6 y7 y8 y9 y10) (spec_eqLengths.l1 (k + 1) y0 y1 y2 y3 y4 y5 y6 y7 y8 y9 y10)) ∧ (∀ y0 y1 y2 y3 y4 y5 y6 y7 y8 y9 y10 y11, LeO (spec_eqLengths.j2 k y0 y1 y2 y3 y4 y5 y6 y7 y8 y9 y10 y11) (spec_eqLengths.j2 (k + 1) y0 y1 y2 y3 y4 y5 y6 y7 y8 y9 y10 y11)) ∧ (∀ y0 y1 y2 y3 y4 y5 y6 y7 y8 y9 y10 y11 y12 y13, LeO (spec_eqLengths.l2 k y0 y1 y2 y3 y4 y5 y6 y7 y8 y9 y10 y11 y12 y13) (spec_eqLengths.l2 (k + 1) y0 y1 y2 y3 y4 y5 y6 y7 y8 y9 y10 y11 y12 y13)) ∧ (∀ y0 y1 y2 y3 y4, LeO (spec_eqLengths.l3 k y0 y1 y2 y3 y4) (spec_eqLengths.l3 (k + 1) y0 y1 y2 y3 y4))
  | 0 => ⟨fun _ _ _ _ _ _ _ r h => by simp [spec_eqLengths.l0] at h, fun _ _ _ _ _ _ _ _ _ _ _ r h => by simp [spec_eqLengths.l1] at h, fun _ _ _ _ _ _ _ _ _ _ _ _ r h => by simp [spec_eqLengths.j2] at h, fun _ _ _ _ _ _ _ _ _ _ _ _ _ _ r h => by simp [spec_eqLengths.l2] at h, fun _ _ _ _ _ r h => by simp [spec_eqLengths.l3] at h⟩
  | k + 1 => by
    obtain ⟨ih0, ih1, ih2, ih3, ih4⟩ := spec_eqLengths.mono_l k
    refine ⟨?_, ?_, ?_, ?_, ?_⟩
    · intro y0 y1 y2 y3 y4 y5 y6
      unfold spec_eqLengths.l0
      repeat' first
      | (with_reducible exact ih0 _ _ _ _ _ _ _)
      | (with_reducible exact ih1 _ _ _ _ _ _ _ _ _ _ _)
      | (with_reducible exact ih2 _ _ _ _ _ _ _ _ _ _ _ _)
      | (with_reducible exact ih3 _ _ _ _ _ _ _ _ _ _ _ _ _ _)
      | (with_reducible exact ih4 _ _ _ _ _)
      | (with_reducible exact spec_eqUseful.mono _ _ _ _)
      | (with_reducible exact spec_l1Has.mono _ _ _)
      | (with_reducible exact LeO.refl _)
      | (with_reducible exact LeO.none _)
      | (with_reducible refine LeO.ite ?_ ?_)
      | (with_reducible refine LeO.bind ?_ (fun _ => ?_))
      | exact ih0 _ _ _ _ _ _ _
      | exact ih1 _ _ _ _ _ _ _ _ _ _ _
      | exact ih2 _ _ _ _ _ _ _ _ _ _ _ _
      | exact ih3 _ _ _ _ _ _ _ _ _ _ _ _ _ _
      | exact ih4 _ _ _ _ _
      | exact spec_eqUseful.mono _ _ _ _
      | exact spec_l1Has.mono _ _ _
      | exact LeO.none _
      | refine LeO.ite ?_ ?_
      | refine LeO.bind ?_ (fun _ => ?_)
    · intro y0 y1 y2 y3 y4 y5 y6 y7 y8 y9 y10
      unfold spec_eqLengths.l1
      repeat' first
      | (with_reducible exact ih0 _ _ _ _ _ _ _)
      | (with_reducible exact ih1 _ _ _ _ _ _ _ _ _ _ _)
      | (with_reducible exact ih2 _ _ _ _ _ _ _ _ _ _ _ _)
      | (with_reducible exact ih3 _ _ _ _ _ _ _ _ _ _ _ _ _ _)
      | (with_reducible exact ih4 _ _ _ _ _)
      | (with_reducible exact spec_eqUseful.mono _ _ _ _)
      | (with_reducible exact spec_l1Has.mono _ _ _)
      | (with_reducible exact LeO.refl _)
      | (with_reducible exact LeO.none _)
      | (with_reducible refine LeO.ite ?_ ?_)
      | (with_reducible refine LeO.bind ?_ (fun _ => ?_))
      | exact ih0 _ _ _ _ _ _ _
      | exact ih1 _ _ _ _ _ _ _ _ _ _ _
      | exact ih2 _ _ _ _ _ _ _ _ _ _ _ _
      | exact ih3 _ _ _ _ _ _ _ _ _ _ _ _ _ _
      | exact ih4 _ _ _ _ _
      | exact spec_eqUseful.mono _ _ _ _
      | exact spec_l1Has.mono _ _ _
      | exact LeO.none _
      | refine LeO.ite ?_ ?_
      | refine LeO.bind ?_ (fun _ => ?_)
    · intro y0 y1 y2 y3 y4 y5 y6 y7 y8 y9 y10 y11
      unfold spec_eqLengths.j2
      repeat' first
      | (with_reducible exact ih0 _ _ _ _ _ _ _)
      | (with_reducible exact ih1 _ _ _ _ _ _ _ _ _ _ _)
      | (with_reducible exact ih2 _ _ _ _ _ _ _ _ _ _ _ _)
      | (with_reducible exact ih3 _ _ _ _ _ _ _ _ _ _ _ _ _ _)
      | (with_reducible exact ih4 _ _ _ _ _)
      | (with_reducible exact spec_eqUseful.mono _ _ _ _)
      | (with_reducible exact spec_l1Has.mono _ _ _)
      | (with_reducible exact LeO.refl _)
      | (with_reducible exact LeO.none _)
      | (with_reducible refine LeO.ite ?_ ?_)
      | (with_reducible refine LeO.bind ?_ (fun _ => ?_))
      | exact ih0 _ _ _ _ _ _ _
      | exact ih1 _ _ _ _ _ _ _ _ _ _ _
      | exact ih2 _ _ _ _ _ _ _ _ _ _ _ _
      | exact ih3 _ _ _ _ _ _ _ _ _ _ _ _ _ _
      | exact ih4 _ _ _ _ _
      | exact spec_eqUseful.mono _ _ _ _
      | exact spec_l1Has.mono _ _ _
      | exact LeO.none _
      | refine LeO.ite ?_ ?_
      | refine LeO.bind ?_ (fun _ => ?_)
    · intro y0 y1 y2 y3 y4 y5 y6 y7 y8 y9 y10 y11 y12 y13
      unfold spec_eqLengths.l2
      repeat' first
      | (with_reducible exact ih0 _ _ _ _ _ _ _)
      | (with_reducible exact ih1 _ _ _ _ _ _ _ _ _ _ _)
      | (with_reducible exact ih2 _ _ _ _ _ _ _ _ _ _ _ _)
      | (with_reducible exact ih3 _ _ _ _ _ _ _ _ _ _ _ _ _ _)
      | (with_reducible exact ih4 _ _ _ _ _)
      | (with_reducible exact spec_eqUseful.mono _ _ _ _)
      | (with_reducible exact spec_l1Has.mono _ _ _)
      | (with_reducible exact LeO.refl _)
      | (with_reducible exact LeO.none _)
      | (with_reducible refine LeO.ite ?_ ?_)
      | (with_reducible refine LeO.bind ?_ (fun _ => ?_))
      | exact ih0 _ _ _ _ _ _ _
      | exact ih1 _ _ _ _ _ _ _ _ _ _ _
      | exact ih2 _ _ _ _ _ _ _ _ _ _ _ _
      | exact ih3 _ _ _ _ _ _ _ _ _ _ _ _ _ _
      | exact ih4 _ _ _ _ _
      | exact spec_eqUseful.mono _ _ _ _
      | exact spec_l1Has.mono _ _ _
      | exact LeO.none _
      | refine LeO.ite ?_ ?_
      | refine LeO.bind ?_ (fun _ => ?_)
    · intro y0 y1 y2 y3 y4
      unfold spec_eqLengths.l3
      repeat' first
      | (with_reducible exact ih0 _ _ _ _ _ _ _)
      | (with_reducible exact ih1 _ _ _ _ _ _ _ _ _ _ _)
      | (with_reducible exact ih2 _ _ _ _ _ _ _ _ _ _ _ _)
      | (with_reducible exact ih3 _ _ _ _ _ _ _ _ _ _ _ _ _ _)
      | (with_reducible exact ih4 _ _ _ _ _)
      | (with_reducible exact spec_eqUseful.mono _ _ _ _)
      | (with_reducible exact spec_l1Has.mono _ _ _)
      | (with_reducible exact LeO.refl _)
      | (with_reducible exact LeO.none _)
      | (with_reducible refine LeO.ite ?_ ?_)
      | (with_reducible refine LeO.bind ?_ (fun _ => ?_))
      | exact ih0 _ _ _ _ _ _ _
      | exact ih1 _ _ _ _ _ _ _ _ _ _ _
      | exact ih2 _ _ _ _ _ _ _ _ _ _ _ _
      | exact ih3 _ _ _ _ _ _ _ _ _ _ _ _ _ _
      | exact ih4 _ _ _ _ _
      | exact spec_eqUseful.mono _ _ _ _
      | exact spec_l1Has.mono _ _ _
      | exact LeO.none _
      | refine LeO.ite ?_ ?_
      | refine LeO.bind ?_ (fun _ => ?_)
theorem spec_eqLengths.mono : ∀ a0 a1 a2 k, LeO (spec_eqLengths.f k a0 a1 a2) (spec_eqLengths.f (k + 1) a0 a1 a2) := by
  intro a0 a1 a2 k
  obtain ⟨ih0, ih1, ih2, ih3, ih4⟩ := spec_eqLengths.mono_l k
  unfold spec_eqLengths.f
  repeat' first
      | (with_reducible exact ih0 _ _ _ _ _ _ _)
      | (with_reducible exact ih1 _ _ _ _ _ _ _ _ _ _ _)
      | (with_reducible exact ih2 _ _ _ _ _ _ _ _ _ _ _ _)
      | (with_reducible exact ih3 _ _ _ _ _ _ _ _ _ _ _ _ _ _)
      | (with_reducible exact ih4 _ _ _ _ _)
      | (with_reducible exact spec_eqUseful.mono _ _ _ _)
      | (with_reducible exact spec_l1Has.mono _ _ _)
      | (with_reducible exact LeO.refl _)
      | (with_reducible exact LeO.none _)
      | (with_reducible refine LeO.ite ?_ ?_)
      | (with_reducible refine LeO.bind ?_ (fun _ => ?_))
      | exact ih0 _ _ _ _ _ _ _
      | exact ih1 _ _ _ _ _ _ _ _ _ _ _
      | exact ih2 _ _ _ _ _ _ _ _ _ _ _ _
      | exact ih3 _ _ _ _ _ _ _ _ _ _ _ _ _ _
      | exact ih4 _ _ _ _ _
      | exact spec_eqUseful.mono _ _ _ _
      | exact spec_l1Has.mono _ _ _
      | exact LeO.none _
      | refine LeO.ite ?_ ?_
      | refine LeO.bind ?_ (fun _ => ?_)
set_option maxHeartbeats 8000000 in
set_option maxRecDepth 100000 in
theorem spec_eqLengths.calls (k : Nat) (a0_0 : Int) (A0_1 : Option Addr) (c0_1 : Nat) (l0_1 : List (List Int)) (A0_2 : Option Addr) (c0_2 : Nat) (l0_2 : List Int) (r : List Bool) (w : World) (hr0_1 : Kd.C (Kd.slice 3 (Kd.int .i64)) w A0_1 l0_1.length l0_1) (hc0_1 : l0_1.length ≤ c0_1) (hr0_2 : Kd.C (Kd.int .i64) w A0_2 l0_2.length l0_2) (hc0_2 : l0_2.length ≤ c0_2) (h : spec_eqLengths.f k a0_0 l0_1 l0_2 = some r) :
    Calls Try.prog 60 #[.agg #[.int .i64 a0_0, .slice A0_1 l0_1.length c0_1, .slice A0_2 l0_2.length c0_2]] w fun e w' => ∃ v0_ : Value, e = .returned (v0_) ∧ Kd.R Kd.bool 4 w' w.heap.size (fun _ => True) v0_ r ∧ Below w.heap.size w w' := by
  have hu29 := Try.underlying29
  have HR0_1 := Aside0.mk hr0_1
  have HC0_1 := Aside0.mk hc0_1
  clear hr0_1 hc0_1
  have HR0_2 := Aside0.mk hr0_2
  have HC0_2 := Aside0.mk hc0_2
  clear hr0_2 hc0_2
  have HB := Aside0.mk (Below.refl w.heap.size w)
  have H : ((spec_eqUseful.f k a0_0 l0_1 l0_2).bind fun t604 => (if 0 ≤ (l0_1.length : Int) then (if ((l0_1.length : Int) : Int).toNat ≤ 281474976710656 then ((some (List.replicate ((l0_1.length : Int) : Int).toNat false : List Bool)).bind fun y607 => (if 0 < (t604.length : Int) then (if 0 < (y607.length : Int) then (spec_eqLengths.l0 k t604 (y607.set (0 : Int).toNat (rdOf false t604 0)) ([] : List Bool) 0 a0_0 l0_1 l0_2) else (none)) else (none))) else (none)) else (none))) = some r := h
  clear h
  replace H := Option.bind_eq_some_iff.mp H
  obtain ⟨t604, A20, H⟩ := H
  replace H : (if 0 ≤ (l0_1.length : Int) then (if ((l0_1.length : Int) : Int).toNat ≤ 281474976710656 then ((some (List.replicate ((l0_1.length : Int) : Int).toNat false : List Bool)).bind fun y607 => (if 0 < (t604.length : Int) then (if 0 < (y607.length : Int) then (spec_eqLengths.l0 k t604 (y607.set (0 : Int).toNat (rdOf false t604 0)) ([] : List Bool) 0 a0_0 l0_1 l0_2) else (none)) else (none))) else (none)) else (none)) = some r := H
  have A2 := Aside0.mk A20
  clear A20
  by_cases c3 : 0 ≤ (l0_1.length : Int)
  · rw [if_pos c3] at H
    have c3b0 := eq_true c3
    have c3b1 : decide (0 ≤ (l0_1.length : Int)) = true := decide_eq_true c3
    clear c3
    by_cases c4 : ((l0_1.length : Int) : Int).toNat ≤ 281474976710656
    · rw [if_pos c4] at H
      have c4b0 := eq_true c4
      have c4b1 : decide (((l0_1.length : Int) : Int).toNat ≤ 281474976710656) = true := decide_eq_true c4
      clear c4
      obtain ⟨y607, hy607⟩ : ∃ y_ : List Bool, y_ = (List.replicate ((l0_1.length : Int) : Int).toNat false) := ⟨_, rfl⟩
      replace H : (if 0 < (t604.length : Int) then (if 0 < (y607.length : Int) then (spec_eqLengths.l0 k t604 (y607.set (0 : Int).toNat (rdOf false t604 0)) ([] : List Bool) 0 a0_0 l0_1 l0_2) else (none)) else (none)) = some r := by first | (rw [hy607]; with_reducible exact H) | (have H2_ := (Option.bind_some _ _).symm.trans H; rw [hy607]; with_reducible exact H2_) | (have H2_ := (Option.bind_some _ _).symm.trans H; with_reducible exact H2_) | with_reducible exact H | (rw [hy607]; exact H) | exact H
      have Ny607 := Aside0.mk hy607
      clear hy607
      by_cases c5 : 0 < (t604.length : Int)
      · rw [if_pos c5] at H
        have c5b0 : decide (0 < (t604.length : Int)) = true := decide_eq_true c5
        have c5b1 : decide (0 < t604.length) = true := decide_eq_true (by omega)
        clear c5
        by_cases c6 : 0 < (y607.length : Int)
        · rw [if_pos c6] at H
          have c6b0 : decide (0 < (y607.length : Int)) = true := decide_eq_true c6
          have c6b1 : decide (0 < y607.length) = true := decide_eq_true (by omega)
          clear c6
          obtain ⟨y611, hy611⟩ : ∃ y_ : List Bool, y_ = (y607.set (0 : Int).toNat (rdOf false t604 0)) := ⟨_, rfl⟩
          replace H : (spec_eqLengths.l0 k t604 y611 ([] : List Bool) 0 a0_0 l0_1 l0_2) = some r := by first | (rw [hy611]; with_reducible exact H) | (have H2_ := (Option.bind_some _ _).symm.trans H; rw [hy611]; with_reducible exact H2_) | (have H2_ := (Option.bind_some _ _).symm.trans H; with_reducible exact H2_) | with_reducible exact H | (rw [hy611]; exact H) | exact H
          have Ny611 := Aside0.mk hy611
          clear hy611
          have H' := Aside0.mk H
          clear H
          go_enter Try.func60, Try.ntmps60
          go_wp2_with (first | ((with_reducible refine gate_dst (N := 1) rfl ?_); refine box_event ?hg (N := 1) ?hd (cs := #[.int .i64 a0_0, .slice A0_1 l0_1.length c0_1, .slice A0_2 l0_2.length c0_2]) (t := 29) ?hr ?_; (case hd => rfl); (case hg => rfl); (case hr => first | (go_simp; done) | (go_simp; rfl)); intro gb603 hg w8 hbox hb; have n0_ := Aside0.mk (below_step (by repeat (first | (with_reducible first | exact HB.out | apply below_alloc | apply pw_below_drewN | apply below_drew1) | exact HB.out)) hb); have n1_ := Aside0.mk (hbox); have n2_ := Aside0.mk ((by rw [hg]; exact (below_size (by repeat (first | (with_reducible first | exact HB.out | apply below_alloc | apply pw_below_drewN | apply below_drew1) | exact HB.out))) : w.heap.size ≤ gb603)); have n3_ := Aside0.mk ((by rw [hg]; exact (below_size (by repeat (first | (with_reducible first | exact HB.out | apply below_alloc | apply pw_below_drewN | apply below_drew1) | exact HB.out))) : w.heap.size ≤ gb603)); clear HB; have HB := n0_; have BK603 := n1_; have GW603 := n2_; have GE603 := n3_; clear n0_ n1_ n2_ n3_; clear hb hbox hg; have hcz9_0 : w8.cell? ⟨gb603, 0, none⟩ = some (.int .i64 a0_0) := (blk_cell BK603.out 0).trans rfl; have hcz9_1 : w8.cell? ⟨gb603, 1, none⟩ = some (.slice A0_1 l0_1.length c0_1) := (blk_cell BK603.out 1).trans rfl; have hcz9_2 : w8.cell? ⟨gb603, 2, none⟩ = some (.slice A0_2 l0_2.length c0_2) := (blk_cell BK603.out 2).trans rfl; have hfz9_0 := blk_frozen BK603.out 0; have hfz9_1 := blk_frozen BK603.out 1; have hfz9_2 := blk_frozen BK603.out 2) | ((with_reducible refine gate_callee (f := 66) rfl ?_); refine goesL_ (some 17) rfl rfl Try.func66 (by kernel_rfl) rfl #[.agg #[.int .i64 a0_0, .slice A0_1 l0_1.length c0_1, .slice A0_2 l0_2.length c0_2]] rfl (by (try simp only [List.map_toArray, List.map_cons, List.map_nil]); first | done | rfl | (simp only [List.length_drop, List.length_take]; rfl)) ?_; (with_reducible refine (spec_eqUseful.calls k a0_0 _ _ l0_1 _ _ l0_2 t604 _ ?side1 ?side2 ?side3 ?side4 A2.out).mono ?_); (case side1 => repeat (first | exact (Kd.C_below HR0_1.out HB.out) | (with_reducible refine Kd.C_alloc ?_ _) | (with_reducible refine Kd.C_drewN ?_ _) | (with_reducible refine Kd.C_drew ?_))); (case side2 => exact HC0_1.out); (case side3 => repeat (first | exact (Kd.C_below HR0_2.out HB.out) | (with_reducible refine Kd.C_alloc ?_ _) | (with_reducible refine Kd.C_drewN ?_ _) | (with_reducible refine Kd.C_drew ?_))); (case side4 => exact HC0_2.out); rintro e w10 ⟨v605, rfl, ho0, hb⟩; refine ⟨_, rfl, ?_⟩; have n0_ := Aside0.mk (Kd.R_lower ho0 (below_size (by repeat (first | (with_reducible first | exact HB.out | apply below_alloc | apply pw_below_drewN | apply below_drew1 | refine below_set ?_ GE603.out) | exact HB.out)))); have n1_ := Aside0.mk (blk_below (g := gb603) (o := .cells #[.int .i64 a0_0, .slice A0_1 l0_1.length c0_1, .slice A0_2 l0_2.length c0_2] 29 (0, 0)) (by (with_reducible repeat (first | refine blk_drewN ?_ _ | refine blk_drew ?_ | refine blk_alloc ?_ _)); exact BK603.out) hb); have n2_ := Aside0.mk (below_step (by repeat (first | (with_reducible first | exact HB.out | apply below_alloc | apply pw_below_drewN | apply below_drew1 | refine below_set ?_ GE603.out) | exact HB.out)) hb); clear BK603; clear HB; have HO606 := n0_; have BK603 := n1_; have HB := n2_; clear n0_ n1_ n2_; (try clear hb); (try clear hb2); (try clear hk); (try clear hi); (try clear ho0); have hcz11_0 : w10.cell? ⟨gb603, 0, none⟩ = some (.int .i64 a0_0) := (blk_cell BK603.out 0).trans rfl; have hcz11_1 : w10.cell? ⟨gb603, 1, none⟩ = some (.slice A0_1 l0_1.length c0_1) := (blk_cell BK603.out 1).trans rfl; have hcz11_2 : w10.cell? ⟨gb603, 2, none⟩ = some (.slice A0_2 l0_2.length c0_2) := (blk_cell BK603.out 2).trans rfl; have hfz11_0 := blk_frozen BK603.out 0; have hfz11_1 := blk_frozen BK603.out 1; have hfz11_2 := blk_frozen BK603.out 2) | ((with_reducible refine gate_dst (N := 21) rfl ?_); refine Kd.R_make Kd.bool _ 4 rfl (N := 21) rfl 62 _ _ rfl (l0_1.length : Int) rfl rfl Try.underlying62 (.bool false) 1 info4 rfl (by decide) (by omega) false (ok := fun _ => True) (okp := fun _ => True) rfl (fun _ hk => hk) trivial (of_decide_eq_true (by first | (with_reducible assumption) | assumption)) (Nat.le_trans (Nat.mul_le_mul_right _ (of_decide_eq_true (by first | (with_reducible assumption) | assumption) : (l0_1.length : Int).toNat ≤ 281474976710656)) (by omega)) (Below.refl _ _) (Nat.le_refl _) ?_; intro v608 w12 ho13 hb hg_ hnew_; clear hg_ hnew_; (first | rw [← Ny607.out] at ho13 | (simp only [Int.reduceToNat] at ho13; rw [← Ny607.out] at ho13)); have n0_ := Aside0.mk (Kd.R_elder' (by (with_reducible repeat (first | apply Kd.R_alloc | apply Kd.R_drewN | apply Kd.R_drew)); exact HO606.out) (Kd.R_base ho13) hb); have n1_ := Aside0.mk (Kd.R_lower (Kd.R_new' ho13 (Kd.R_lt (by (with_reducible repeat (first | apply Kd.R_alloc | apply Kd.R_drewN | apply Kd.R_drew)); exact HO606.out))) (below_size (by repeat (first | (with_reducible first | exact HB.out | apply below_alloc | apply pw_below_drewN | apply below_drew1 | refine below_set ?_ GE603.out) | exact HB.out)))); have n2_ := Aside0.mk (blk_below (g := gb603) (o := .cells #[.int .i64 a0_0, .slice A0_1 l0_1.length c0_1, .slice A0_2 l0_2.length c0_2] 29 (0, 0)) (by (with_reducible repeat (first | refine blk_drewN ?_ _ | refine blk_drew ?_ | refine blk_alloc ?_ _)); exact BK603.out) hb); have n3_ := Aside0.mk (below_step (by repeat (first | (with_reducible first | exact HB.out | apply below_alloc | apply pw_below_drewN | apply below_drew1 | refine below_set ?_ GE603.out) | exact HB.out)) hb); clear HO606; clear BK603; clear HB; have HO606 := n0_; have HO609 := n1_; have BK603 := n2_; have HB := n3_; clear n0_ n1_ n2_ n3_; clear hb ho13; obtain ⟨Ao14, co14, eo14⟩ := Kd.R_slice HO606.out; subst eo14; have p610 : 0 ≤ (0 : Int) := (by omega); have q610 : 0 < (t604.length : Int) := of_decide_eq_true (by first | (with_reducible assumption) | assumption); obtain ⟨ad610, e610, hx610_0⟩ := Kd.at_bool (Kd.R_reads' HO606.out).2.2 0 p610 q610; cases e610; have qi610 : (0 < t604.length) = True := eq_true (by omega); (try rw [show ((0 : Int)).toNat = 0 from rfl] at hx610_0); (try rw [Addr.add_zero'] at hx610_0); replace p610 := eq_true p610; replace q610 := eq_true q610; have p7 : 0 ≤ (0 : Int) := (by omega); have q7 : (0 : Int) < ((y607.length : Int) : Int) := of_decide_eq_true (by first | (with_reducible assumption) | assumption); have qi7 : (0 < y607.length) = True := eq_true (by omega); obtain ⟨go7, co7, eo7, gb7, gl7, cl7, HG7⟩ := Kd.R_form HO609.out (by omega); (first | cases eo7 | (injection eo7 with ea_ en_ ec_; (first | subst ea_ | (injection ea_ with ea_; subst ea_)); subst ec_; clear en_)); have GB7 := Aside0.mk gb7; have GG7 := Aside0.mk HG7; clear gb7 gl7 HG7; obtain ⟨hx7_0, hf7_0⟩ := Kd.R_celln false HO609.out (0 : Int) p7 q7; (try rw [show ((0 : Int)).toNat = 0 from rfl] at hx7_0); (try simp only [Nat.reduceMul, Nat.zero_mul, Nat.zero_add, Nat.reduceAdd] at hx7_0); (try rw [show ((0 : Int)).toNat = 0 from rfl] at hf7_0); (try simp only [Nat.reduceMul, Nat.zero_mul, Nat.zero_add, Nat.reduceAdd] at hf7_0); replace p7 := eq_true p7; replace q7 := eq_true q7; have n_ := Aside0.mk (Kd.R_mono (ok' := (fun k_ => some k_ ≠ (.slice (some ad610) t604.length co14 : Value).ownBlock)) HO609.out (fun k_ hk => hk.2)); clear HO609; have HO609 := n_; clear n_; obtain ⟨hy15_, hz15_⟩ := Kd.R_celln false HO609.out (0 : Int) (by omega) (of_decide_eq_true (by first | (with_reducible assumption) | assumption)); (try simp only [Int.reduceToNat, Int.toNat_zero, Int.toNat_ofNat, Nat.reduceMul, Nat.zero_mul, Nat.zero_add] at hy15_ hz15_); (try rw [show ((0 : Int)).toNat = 0 from rfl] at hy15_); (try rw [show ((0 : Int)).toNat = 0 from rfl] at hz15_); have HP15 := Kd.R_putg HO609.out (0 : Int) (rdOf false t604 0)) | ((with_reducible refine gate_store (t := 4) (p := 26) rfl ?_); refine store_event (t := 4) (p := 26) (v := ?vo_w16) (w1 := (w12.setCell ⟨go7, (0 : Int).toNat, none⟩ (.bool (rdOf false t604 0)))) ?hg ?ho ?hn ?hr ?_; (case ho => rfl); (case hg => rfl); (case hn => rfl); (case hr => first | (go_simp; done) | (go_simp; rfl)); intro w16 hw; have hg : w12.grownBy w16 (some go7) := (by rw [hw]; exact HP15.2); have hp_ : Kd.R Kd.bool 4 w16 w.heap.size (fun k_ => some k_ ≠ (.slice (some ad610) t604.length co14 : Value).ownBlock) (.slice (some ⟨go7, 0, none⟩) y607.length co7) y611 := (by rw [hw, Ny611.out]; exact HP15.1); clear HP15; have n0_ := Aside0.mk (blk_grown (g := gb603) (o := .cells #[.int .i64 a0_0, .slice A0_1 l0_1.length c0_1, .slice A0_2 l0_2.length c0_2] 29 (0, 0)) (by (with_reducible repeat (first | refine blk_drewN ?_ _ | refine blk_drew ?_ | refine blk_alloc ?_ _)); exact BK603.out) hg (Kd.R_ne HO609.out BK603.out (by decide))); have n1_ := Aside0.mk (Kd.R_after (v := (.slice (some ⟨go7, 0, none⟩) y607.length co7)) (v1 := (.slice (some ⟨go7, 0, none⟩) y607.length co7)) (ok := (fun _ => True)) (by (with_reducible repeat (first | apply Kd.R_alloc | apply Kd.R_drewN | apply Kd.R_drew)); exact HO606.out) hg (.inl rfl)); have n2_ := Aside0.mk (hp_); have n3_ := Aside0.mk ((by rw [hw]; exact below_set (HB.out) GB7.out : Below w.heap.size w w16)); clear BK603; clear HO606; clear HO609; clear HB; have BK603 := n0_; have HO606 := n1_; have HO609 := n2_; have HB := n3_; clear n0_ n1_ n2_ n3_; clear hg hw hp_))
          go_loopg [4, 5, 6] k (fun kq v4 v5 v6 w' => ∃ (x3_1 : List Bool) (x4_1 : List Bool) (x5_1 : List Bool) (x6_1 : Int), v6 = .int .i64 x6_1 ∧ Aside0 (spec_eqLengths.l0 kq x3_1 x4_1 x5_1 x6_1 a0_0 l0_1 l0_2 = some r) ∧ Aside0 (kq ≤ k) ∧ Aside0 (Kd.R Kd.bool 4 w' w.heap.size (fun k_ => some k_ ≠ (v4 : Value).ownBlock ∧ some k_ ≠ (v5 : Value).ownBlock) (.slice (some ad610) t604.length co14) x3_1) ∧ Aside0 (Kd.R Kd.bool 4 w' w.heap.size (fun k_ => some k_ ≠ ((.slice (some ad610) t604.length co14) : Value).ownBlock ∧ some k_ ≠ (v5 : Value).ownBlock) v4 x4_1) ∧ Aside0 (Kd.R Kd.bool 4 w' w.heap.size (fun k_ => some k_ ≠ ((.slice (some ad610) t604.length co14) : Value).ownBlock ∧ some k_ ≠ (v4 : Value).ownBlock) v5 x5_1) ∧ Aside0 (w'.heap[gb603]? = some (.cells #[.int .i64 a0_0, (.slice A0_1 l0_1.length c0_1), (.slice A0_2 l0_2.length c0_2)] 29 (0, 0))) ∧ Aside0 (Below w.heap.size w w'))
          case atStart => exact ⟨(t604), (y611), (([] : List Bool)), (0), (by first | rfl | (simp; done) | (simp [*]; done)), H', ⟨Nat.le_refl _⟩, ⟨by (with_reducible repeat (first | apply Kd.R_alloc | apply Kd.R_drewN | apply Kd.R_drew)); exact Kd.R_mono HO606.out (fun _ hk => ⟨hk.2, (by simp [Value.ownBlock])⟩)⟩, ⟨by (with_reducible repeat (first | apply Kd.R_alloc | apply Kd.R_drewN | apply Kd.R_drew)); exact Kd.R_mono HO609.out (fun _ hk => ⟨hk, (by simp [Value.ownBlock])⟩)⟩, ⟨by first | exact Kd.R_nil _ _ _ _ _ | exact Kd.N_nil _ _ _ _ _ | exact Kd.V_nil _ _ _ _ _ | exact Kd.Q_nil _ _ _ _ _ | exact Kd.S_nil _ _ _ _ _⟩, ⟨by (with_reducible repeat (first | refine blk_drewN ?_ _ | refine blk_drew ?_ | refine blk_alloc ?_ _)); exact BK603.out⟩, ⟨by repeat (first | (with_reducible first | exact HB.out | apply below_alloc | apply pw_below_drewN | apply below_drew1 | refine below_set ?_ GE603.out) | exact HB.out)⟩⟩
          case round =>
            clear H'
            try clear p2
            try clear c3
            try clear c3b0
            try clear c3b1
            try clear c4
            try clear c4b0
            try clear c4b1
            try clear c5
            try clear c5b0
            try clear c5b1
            try clear c6
            try clear c6b0
            try clear c6b1
            try clear p6
            try clear q6
            try clear hx6
            try clear qi6
            try clear p7
            try clear q7
            try clear hx7
            try clear qi7
            try clear hf7
            try clear hcz11_0
            try clear hcz11_1
            try clear hcz11_2
            try clear hcz9_0
            try clear hcz9_1
            try clear hcz9_2
            try clear hfz11_0
            try clear hfz11_1
            try clear hfz11_2
            try clear hfz9_0
            try clear hfz9_1
            try clear hfz9_2
            try clear hx610_0
            try clear hx7_0
            try clear p610
            try clear p7
            try clear q610
            try clear q7
            obtain ⟨x3_1, x4_1, x5_1, x6_1, rfl, HA, HK1, HO_3, HO_4, HO_5, BK603, HB⟩ := hrel
            have hl3_1 := (Kd.R_reads' HO_3.out).1
            rw [hl3_1] at HO_3
            (try simp only [hl3_1])
            (try simp only [hl3_1] at BK603)
            (try simp only [hl3_1] at HO_4)
            (try simp only [hl3_1] at HO_5)
            cases gk with
            | zero => exact absurd HA.out (by simp [spec_eqLengths.l0])
            | succ k1 =>
              have H := HA.out
              clear HA
              simp only [spec_eqLengths.l0] at H
              by_cases c17 : x6_1 ≤ (l0_1.length : Int)
              · rw [if_pos c17] at H
                have c17b0 : decide (x6_1 ≤ (l0_1.length : Int)) = true := decide_eq_true c17
                clear c17
                by_cases c18 : 0 ≤ (l0_1.length : Int)
                · rw [if_pos c18] at H
                  have c18b0 := eq_true c18
                  have c18b1 : decide (0 ≤ (l0_1.length : Int)) = true := decide_eq_true c18
                  clear c18
                  by_cases c19 : ((l0_1.length : Int) : Int).toNat ≤ 281474976710656
                  · rw [if_pos c19] at H
                    have c19b0 := eq_true c19
                    have c19b1 : decide (((l0_1.length : Int) : Int).toNat ≤ 281474976710656) = true := decide_eq_true c19
                    clear c19
                    obtain ⟨y612, hy612⟩ : ∃ y_ : List Bool, y_ = (List.replicate ((l0_1.length : Int) : Int).toNat false) := ⟨_, rfl⟩
                    replace H : (spec_eqLengths.l1 k1 x3_1 x5_1 x6_1 false y612 x4_1 (x4_1.length : Int) 0 a0_0 l0_1 l0_2) = some r := by first | (rw [hy612]; with_reducible exact H) | (have H2_ := (Option.bind_some _ _).symm.trans H; rw [hy612]; with_reducible exact H2_) | (have H2_ := (Option.bind_some _ _).symm.trans H; with_reducible exact H2_) | with_reducible exact H | (rw [hy612]; exact H) | exact H
                    have Ny612 := Aside0.mk hy612
                    clear hy612
                    have H' := Aside0.mk H
                    clear H
                    have hcz20_0 : wr.cell? ⟨gb603, 0, none⟩ = some (.int .i64 a0_0) := (blk_cell BK603.out 0).trans rfl
                    have hcz20_1 : wr.cell? ⟨gb603, 1, none⟩ = some (.slice A0_1 l0_1.length c0_1) := (blk_cell BK603.out 1).trans rfl
                    have hcz20_2 : wr.cell? ⟨gb603, 2, none⟩ = some (.slice A0_2 l0_2.length c0_2) := (blk_cell BK603.out 2).trans rfl
                    have hfz20_0 := blk_frozen BK603.out 0
                    have hfz20_1 := blk_frozen BK603.out 1
                    have hfz20_2 := blk_frozen BK603.out 2
                    go_wp2_with (first | ((with_reducible refine gate_dst (N := 37) rfl ?_); refine Kd.R_make Kd.bool _ 4 rfl (N := 37) rfl 62 _ _ rfl (l0_1.length : Int) rfl rfl Try.underlying62 (.bool false) 1 info4 rfl (by decide) (by omega) false (ok := fun _ => True) (okp := fun _ => True) rfl (fun _ hk => hk) trivial (of_decide_eq_true (by first | (with_reducible assumption) | assumption)) (Nat.le_trans (Nat.mul_le_mul_right _ (of_decide_eq_true (by first | (with_reducible assumption) | assumption) : (l0_1.length : Int).toNat ≤ 281474976710656)) (by omega)) (Below.refl _ _) (Nat.le_refl _) ?_; intro v613 w21 ho22 hb hg_ hnew_; clear hg_ hnew_; (first | rw [← Ny612.out] at ho22 | (simp only [Int.reduceToNat] at ho22; rw [← Ny612.out] at ho22)); have n0_ := Aside0.mk (Kd.R_elder' (by (with_reducible repeat (first | apply Kd.R_alloc | apply Kd.R_drewN | apply Kd.R_drew)); exact HO_3.out) (Kd.R_base ho22) hb); have n1_ := Aside0.mk (Kd.R_elder' (by (with_reducible repeat (first | apply Kd.R_alloc | apply Kd.R_drewN | apply Kd.R_drew)); exact HO_4.out) (Kd.R_base ho22) hb); have n2_ := Aside0.mk (Kd.R_elder' (by (with_reducible repeat (first | apply Kd.R_alloc | apply Kd.R_drewN | apply Kd.R_drew)); exact HO_5.out) (Kd.R_base ho22) hb); have n3_ := Aside0.mk (Kd.R_lower (Kd.R_new' (Kd.R_new' (Kd.R_new' ho22 (Kd.R_lt (by (with_reducible repeat (first | apply Kd.R_alloc | apply Kd.R_drewN | apply Kd.R_drew)); exact HO_3.out))) (Kd.R_lt (by (with_reducible repeat (first | apply Kd.R_alloc | apply Kd.R_drewN | apply Kd.R_drew)); exact HO_4.out))) (Kd.R_lt (by (with_reducible repeat (first | apply Kd.R_alloc | apply Kd.R_drewN | apply Kd.R_drew)); exact HO_5.out))) (below_size (by repeat (first | (with_reducible first | exact HB.out | apply below_alloc | apply pw_below_drewN | apply below_drew1 | refine below_set ?_ GE603.out) | exact HB.out)))); have n4_ := Aside0.mk (blk_below (g := gb603) (o := .cells #[.int .i64 a0_0, .slice A0_1 l0_1.length c0_1, .slice A0_2 l0_2.length c0_2] 29 (0, 0)) (by (with_reducible repeat (first | refine blk_drewN ?_ _ | refine blk_drew ?_ | refine blk_alloc ?_ _)); exact BK603.out) hb); have n5_ := Aside0.mk (below_step (by repeat (first | (with_reducible first | exact HB.out | apply below_alloc | apply pw_below_drewN | apply below_drew1 | refine below_set ?_ GE603.out) | exact HB.out)) hb); clear HO_3; clear HO_4; clear HO_5; clear BK603; clear HB; have HO_3 := n0_; have HO_4 := n1_; have HO_5 := n2_; have HO614 := n3_; have BK603 := n4_; have HB := n5_; clear n0_ n1_ n2_ n3_ n4_ n5_; clear hb ho22; obtain ⟨Ao23, co23, eo23⟩ := Kd.R_slice HO_4.out; subst eo23))
                    go_loopg [7, 40] k1 (fun kq v7 v40 w' => ∃ (x7_2 : Bool) (x8_2 : List Bool) (x40_2 : Int), v7 = .bool x7_2 ∧ v40 = .int .i64 x40_2 ∧ Aside0 (spec_eqLengths.l1 kq x3_1 x5_1 x6_1 x7_2 x8_2 x4_1 (x4_1.length : Int) x40_2 a0_0 l0_1 l0_2 = some r) ∧ Aside0 (kq ≤ k1) ∧ Aside0 (Kd.R Kd.bool 4 w' w.heap.size (fun k_ => some k_ ≠ (u5 : Value).ownBlock ∧ some k_ ≠ (v613 : Value).ownBlock ∧ some k_ ≠ ((.slice Ao23 x4_1.length co23) : Value).ownBlock) (.slice (some ad610) x3_1.length co14) x3_1) ∧ Aside0 (Kd.R Kd.bool 4 w' w.heap.size (fun k_ => some k_ ≠ ((.slice (some ad610) x3_1.length co14) : Value).ownBlock ∧ some k_ ≠ (v613 : Value).ownBlock ∧ some k_ ≠ ((.slice Ao23 x4_1.length co23) : Value).ownBlock) u5 x5_1) ∧ Aside0 (Kd.R Kd.bool 4 w' w.heap.size (fun k_ => some k_ ≠ ((.slice (some ad610) x3_1.length co14) : Value).ownBlock ∧ some k_ ≠ (u5 : Value).ownBlock ∧ some k_ ≠ ((.slice Ao23 x4_1.length co23) : Value).ownBlock) v613 x8_2) ∧ Aside0 (Kd.R Kd.bool 4 w' w.heap.size (fun k_ => some k_ ≠ ((.slice (some ad610) x3_1.length co14) : Value).ownBlock ∧ some k_ ≠ (u5 : Value).ownBlock ∧ some k_ ≠ (v613 : Value).ownBlock) (.slice Ao23 x4_1.length co23) x4_1) ∧ Aside0 (w'.heap[gb603]? = some (.cells #[.int .i64 a0_0, (.slice A0_1 l0_1.length c0_1), (.slice A0_2 l0_2.length c0_2)] 29 (0, 0))) ∧ Aside0 (Below w.heap.size w w'))
                    case atStart => exact ⟨(false), (y612), (0), (by first | rfl | (simp; done) | (simp [*]; done)), (by first | rfl | (simp; done) | (simp [*]; done)), H', ⟨Nat.le_refl _⟩, ⟨by (try simp only [hl3_1]); (with_reducible repeat (first | apply Kd.R_alloc | apply Kd.R_drewN | apply Kd.R_drew)); exact Kd.R_mono HO_3.out (fun _ hk => ⟨hk.1.2, ⟨hk.2, hk.1.1⟩⟩)⟩, ⟨by (try simp only [hl3_1]); (with_reducible repeat (first | apply Kd.R_alloc | apply Kd.R_drewN | apply Kd.R_drew)); exact Kd.R_mono HO_5.out (fun _ hk => ⟨hk.1.1, ⟨hk.2, hk.1.2⟩⟩)⟩, ⟨by (try simp only [hl3_1]); (with_reducible repeat (first | apply Kd.R_alloc | apply Kd.R_drewN | apply Kd.R_drew)); exact Kd.R_mono HO614.out (fun _ hk => ⟨hk.1.1.2, ⟨hk.2, hk.1.2⟩⟩)⟩, ⟨by (try simp only [hl3_1]); (with_reducible repeat (first | apply Kd.R_alloc | apply Kd.R_drewN | apply Kd.R_drew)); exact Kd.R_mono HO_4.out (fun _ hk => ⟨hk.1.1, ⟨hk.1.2, hk.2⟩⟩)⟩, ⟨by (try simp only [hl3_1]); (with_reducible repeat (first | refine blk_drewN ?_ _ | refine blk_drew ?_ | refine blk_alloc ?_ _)); exact BK603.out⟩, ⟨by repeat (first | (with_reducible first | exact HB.out | apply below_alloc | apply pw_below_drewN | apply below_drew1 | refine below_set ?_ GE603.out) | exact HB.out)⟩⟩
                    case round =>
                      clear H'
                      try clear c1
                      try clear p2
                      try clear c3
                      try clear c3b0
                      try clear c3b1
                      try clear c4
                      try clear c4b0
                      try clear c4b1
                      try clear c5
                      try clear c5b0
                      try clear c5b1
                      try clear c6
                      try clear c6b0
                      try clear c6b1
                      try clear p6
                      try clear q6
                      try clear hx6
                      try clear qi6
                      try clear p7
                      try clear q7
                      try clear hx7
                      try clear qi7
                      try clear hf7
                      try clear c17
                      try clear c17b0
                      try clear c18
                      try clear c18b0
                      try clear c18b1
                      try clear c19
                      try clear c19b0
                      try clear c19b1
                      try clear hcz11_0
                      try clear hcz11_1
                      try clear hcz11_2
                      try clear hcz20_0
                      try clear hcz20_1
                      try clear hcz20_2
                      try clear hcz9_0
                      try clear hcz9_1
                      try clear hcz9_2
                      try clear hfz11_0
                      try clear hfz11_1
                      try clear hfz11_2
                      try clear hfz20_0
                      try clear hfz20_1
                      try clear hfz20_2
                      try clear hfz9_0
                      try clear hfz9_1
                      try clear hfz9_2
                      try clear hx610_0
                      try clear hx7_0
                      try clear p2
                      try clear p6
                      try clear p610
                      try clear p7
                      try clear q6
                      try clear q610
                      try clear q7
                      obtain ⟨x7_2, x8_2, x40_2, rfl, rfl, HA, HK2, HO_3, HO_5, HO_8, HO_38, BK603, HB⟩ := hrel
                      cases gk with
                      | zero => exact absurd HA.out (by simp [spec_eqLengths.l1])
                      | succ k2 =>
                        have H := HA.out
                        clear HA
                        simp only [spec_eqLengths.l1] at H
                        by_cases c24 : x40_2 < (x4_1.length : Int)
                        · rw [if_pos c24] at H
                          have c24b0 : decide (x40_2 < (x4_1.length : Int)) = true := decide_eq_true c24
                          clear c24
                          by_cases c25 : 0 ≤ x40_2
                          · rw [if_pos c25] at H
                            have c25b0 : decide (0 ≤ x40_2) = true := decide_eq_true c25
                            clear c25
                            by_cases c26 : x40_2 < (x4_1.length : Int)
                            · rw [if_pos c26] at H
                              have c26b0 : decide (x40_2 < (x4_1.length : Int)) = true := decide_eq_true c26
                              clear c26
                              obtain ⟨bq27, hbq27⟩ : ∃ b_ : Bool, b_ = (rdOf false x4_1 x40_2) := ⟨_, rfl⟩
                              replace H : (if bq27 = true then (if x7_2 = true then (spec_eqLengths.j2 k2 x3_1 x5_1 x6_1 true x8_2 x40_2 x4_1 (x4_1.length : Int) x40_2 a0_0 l0_1 l0_2) else ((spec_l1Has.f k2 l0_2 x40_2).bind fun t619 => (spec_eqLengths.j2 k2 x3_1 x5_1 x6_1 t619 x8_2 x40_2 x4_1 (x4_1.length : Int) x40_2 a0_0 l0_1 l0_2))) else (spec_eqLengths.l1 k2 x3_1 x5_1 x6_1 x7_2 x8_2 x4_1 (x4_1.length : Int) (wrap64 (x40_2 + 1)) a0_0 l0_1 l0_2)) = some r := by rw [← hbq27] at H; exact H
                              have Nbq27 := Aside0.mk hbq27
                              clear hbq27
                              by_cases c28 : bq27 = true
                              · subst c28
                                have H1 : (if x7_2 = true then (spec_eqLengths.j2 k2 x3_1 x5_1 x6_1 true x8_2 x40_2 x4_1 (x4_1.length : Int) x40_2 a0_0 l0_1 l0_2) else ((spec_l1Has.f k2 l0_2 x40_2).bind fun t619 => (spec_eqLengths.j2 k2 x3_1 x5_1 x6_1 t619 x8_2 x40_2 x4_1 (x4_1.length : Int) x40_2 a0_0 l0_1 l0_2))) = some r := by rw [if_pos rfl] at H; exact H
                                clear H
                                have H := H1
                                clear H1
                                have HC29 := Aside0.mk H
                                clear H
                                have p618 : 0 ≤ (x40_2 : Int) := of_decide_eq_true (by first | (with_reducible assumption) | assumption)
                                have q618 : x40_2 < (x4_1.length : Int) := of_decide_eq_true (by first | (with_reducible assumption) | assumption)
                                obtain ⟨ad618, e618, hx618_0⟩ := Kd.at_bool (Kd.R_reads' HO_38.out).2.2 x40_2 p618 q618
                                (try rw [← Nbq27.out] at hx618_0)
                                cases e618
                                replace p618 := eq_true p618
                                replace q618 := eq_true q618
                                go_upto_region 14 with (fail)
                                go_cut [7] (fun v7 wc => ∃ (kq : Nat) (x7_28 : Bool), v7 = .bool x7_28 ∧ Aside0 (spec_eqLengths.j2 kq x3_1 x5_1 x6_1 x7_28 x8_2 x40_2 x4_1 (x4_1.length : Int) x40_2 a0_0 l0_1 l0_2 = some r) ∧ Aside0 (kq ≤ k2) ∧ Aside0 (Kd.R Kd.bool 4 wc w.heap.size (fun k_ => some k_ ≠ (u5 : Value).ownBlock ∧ some k_ ≠ (v613 : Value).ownBlock ∧ some k_ ≠ ((.slice (some ad618) x4_1.length co23) : Value).ownBlock) (.slice (some ad610) x3_1.length co14) x3_1) ∧ Aside0 (Kd.R Kd.bool 4 wc w.heap.size (fun k_ => some k_ ≠ ((.slice (some ad610) x3_1.length co14) : Value).ownBlock ∧ some k_ ≠ (v613 : Value).ownBlock ∧ some k_ ≠ ((.slice (some ad618) x4_1.length co23) : Value).ownBlock) u5 x5_1) ∧ Aside0 (Kd.R Kd.bool 4 wc w.heap.size (fun k_ => some k_ ≠ ((.slice (some ad610) x3_1.length co14) : Value).ownBlock ∧ some k_ ≠ (u5 : Value).ownBlock ∧ some k_ ≠ ((.slice (some ad618) x4_1.length co23) : Value).ownBlock) v613 x8_2) ∧ Aside0 (Kd.R Kd.bool 4 wc w.heap.size (fun k_ => some k_ ≠ ((.slice (some ad610) x3_1.length co14) : Value).ownBlock ∧ some k_ ≠ (u5 : Value).ownBlock ∧ some k_ ≠ (v613 : Value).ownBlock) (.slice (some ad618) x4_1.length co23) x4_1) ∧ Aside0 (wc.heap[gb603]? = some (.cells #[.int .i64 a0_0, (.slice A0_1 l0_1.length c0_1), (.slice A0_2 l0_2.length c0_2)] 29 (0, 0))) ∧ Aside0 (Below w.heap.size w wc))
                                case first =>
                                  have H := HC29.out
                                  clear HC29
                                  by_cases c30 : x7_2 = true
                                  · subst c30
                                    have H1 : (spec_eqLengths.j2 k2 x3_1 x5_1 x6_1 true x8_2 x40_2 x4_1 (x4_1.length : Int) x40_2 a0_0 l0_1 l0_2) = some r := by rw [if_pos rfl] at H; exact H
                                    clear H
                                    have H := H1
                                    clear H1
                                    have H' := Aside0.mk H
                                    clear H
                                    go_wp2
                                    go_meet
                                    case rel => exact ⟨_, (true), (by first | rfl | (simp; done) | (simp [*]; done)), H', ⟨by have := HK1.out; have := HK2.out; first | omega | exact Nat.le_refl _⟩, ⟨by (try simp only [hl3_1]); (with_reducible repeat (first | apply Kd.R_alloc | apply Kd.R_drewN | apply Kd.R_drew)); exact HO_3.out⟩, ⟨by (try simp only [hl3_1]); (with_reducible repeat (first | apply Kd.R_alloc | apply Kd.R_drewN | apply Kd.R_drew)); exact HO_5.out⟩, ⟨by (try simp only [hl3_1]); (with_reducible repeat (first | apply Kd.R_alloc | apply Kd.R_drewN | apply Kd.R_drew)); exact HO_8.out⟩, ⟨by (try simp only [hl3_1]); (with_reducible repeat (first | apply Kd.R_alloc | apply Kd.R_drewN | apply Kd.R_drew)); exact HO_38.out⟩, ⟨by (try simp only [hl3_1]); (with_reducible repeat (first | refine blk_drewN ?_ _ | refine blk_drew ?_ | refine blk_alloc ?_ _)); exact BK603.out⟩, ⟨by repeat (first | (with_reducible first | exact HB.out | apply below_alloc | apply pw_below_drewN | apply below_drew1 | refine below_set ?_ GE603.out) | exact HB.out)⟩⟩
                                  · replace c30 := Bool.eq_false_iff.mpr c30
                                    subst c30
                                    have H1 : ((spec_l1Has.f k2 l0_2 x40_2).bind fun t619 => (spec_eqLengths.j2 k2 x3_1 x5_1 x6_1 t619 x8_2 x40_2 x4_1 (x4_1.length : Int) x40_2 a0_0 l0_1 l0_2)) = some r := by rw [if_neg (show ¬ (false = true) by decide)] at H; exact H
                                    clear H
                                    have H := H1
                                    clear H1
                                    replace H := Option.bind_eq_some_iff.mp H
                                    obtain ⟨t619, A310, H⟩ := H
                                    replace H : (spec_eqLengths.j2 k2 x3_1 x5_1 x6_1 t619 x8_2 x40_2 x4_1 (x4_1.length : Int) x40_2 a0_0 l0_1 l0_2) = some r := H
                                    have A31 := Aside0.mk A310
                                    clear A310
                                    have H' := Aside0.mk H
                                    clear H
                                    have hcz32_0 : wr.cell? ⟨gb603, 0, none⟩ = some (.int .i64 a0_0) := (blk_cell BK603.out 0).trans rfl
                                    have hcz32_1 : wr.cell? ⟨gb603, 1, none⟩ = some (.slice A0_1 l0_1.length c0_1) := (blk_cell BK603.out 1).trans rfl
                                    have hcz32_2 : wr.cell? ⟨gb603, 2, none⟩ = some (.slice A0_2 l0_2.length c0_2) := (blk_cell BK603.out 2).trans rfl
                                    have hfz32_0 := blk_frozen BK603.out 0
                                    have hfz32_1 := blk_frozen BK603.out 1
                                    have hfz32_2 := blk_frozen BK603.out 2
                                    go_wp2_with (first | (go_at_call 51; (with_reducible refine (spec_l1Has.calls k2 _ _ l0_2 x40_2 t619 _ ?side1 ?side2 A31.out).mono ?_); (case side1 => repeat (first | exact (Kd.C_below HR0_2.out HB.out) | (with_reducible refine Kd.C_alloc ?_ _) | (with_reducible refine Kd.C_drewN ?_ _) | (with_reducible refine Kd.C_drew ?_))); (case side2 => exact HC0_2.out); rintro e w' ⟨rfl, ⟨nd, rfl⟩⟩))
                                    go_meet
                                    case rel => exact ⟨_, (t619), (by first | rfl | (simp; done) | (simp [*]; done)), H', ⟨by have := HK1.out; have := HK2.out; first | omega | exact Nat.le_refl _⟩, ⟨by (try simp only [hl3_1]); (with_reducible repeat (first | apply Kd.R_alloc | apply Kd.R_drewN | apply Kd.R_drew)); exact HO_3.out⟩, ⟨by (try simp only [hl3_1]); (with_reducible repeat (first | apply Kd.R_alloc | apply Kd.R_drewN | apply Kd.R_drew)); exact HO_5.out⟩, ⟨by (try simp only [hl3_1]); (with_reducible repeat (first | apply Kd.R_alloc | apply Kd.R_drewN | apply Kd.R_drew)); exact HO_8.out⟩, ⟨by (try simp only [hl3_1]); (with_reducible repeat (first | apply Kd.R_alloc | apply Kd.R_drewN | apply Kd.R_drew)); exact HO_38.out⟩, ⟨by (try simp only [hl3_1]); (with_reducible repeat (first | refine blk_drewN ?_ _ | refine blk_drew ?_ | refine blk_alloc ?_ _)); exact BK603.out⟩, ⟨by repeat (first | (with_reducible first | exact HB.out | apply below_alloc | apply pw_below_drewN | apply below_drew1 | refine below_set ?_ GE603.out) | exact HB.out)⟩⟩
                                case rest =>
                                  clear HC29
                                  try clear c1
                                  try clear c2
                                  try clear p2
                                  try clear q2
                                  try clear c3
                                  try clear c3b0
                                  try clear c3b1
                                  try clear c4
                                  try clear c4b0
                                  try clear c4b1
                                  try clear c5
                                  try clear c5b0
                                  try clear c5b1
                                  try clear c6
                                  try clear c6b0
                                  try clear c6b1
                                  try clear p6
                                  try clear q6
                                  try clear hx6
                                  try clear qi6
                                  try clear p7
                                  try clear q7
                                  try clear hx7
                                  try clear qi7
                                  try clear hf7
                                  try clear c17
                                  try clear c17b0
                                  try clear c18
                                  try clear c18b0
                                  try clear c18b1
                                  try clear c19
                                  try clear c19b0
                                  try clear c19b1
                                  try clear c24
                                  try clear c24b0
                                  try clear c25
                                  try clear c25b0
                                  try clear c26
                                  try clear c26b0
                                  try clear q27
                                  try clear c28
                                  try clear c30
                                  try clear hcz11_0
                                  try clear hcz11_1
                                  try clear hcz11_2
                                  try clear hcz20_0
                                  try clear hcz20_1
                                  try clear hcz20_2
                                  try clear hcz32_0
                                  try clear hcz32_1
                                  try clear hcz32_2
                                  try clear hcz9_0
                                  try clear hcz9_1
                                  try clear hcz9_2
                                  try clear hfz11_0
                                  try clear hfz11_1
                                  try clear hfz11_2
                                  try clear hfz20_0
                                  try clear hfz20_1
                                  try clear hfz20_2
                                  try clear hfz32_0
                                  try clear hfz32_1
                                  try clear hfz32_2
                                  try clear hfz9_0
                                  try clear hfz9_1
                                  try clear hfz9_2
                                  try clear hx610_0
                                  try clear hx618_0
                                  try clear hx7_0
                                  try clear p2
                                  try clear p6
                                  try clear p610
                                  try clear p618
                                  try clear p7
                                  try clear q6
                                  try clear q610
                                  try clear q618
                                  try clear q7
                                  obtain ⟨kq, x7_28, rfl, HA, HJ28, HO_3, HO_5, HO_8, HO_38, BK603, HB⟩ := hcut
                                  cases kq with
                                  | zero => exact absurd HA.out (by simp [spec_eqLengths.j2])
                                  | succ kj28 =>
                                    have H := HA.out
                                    clear HA
                                    simp only [spec_eqLengths.j2] at H
                                    by_cases c33 : 0 ≤ x40_2
                                    · rw [if_pos c33] at H
                                      have c33b0 : decide (0 ≤ x40_2) = true := decide_eq_true c33
                                      clear c33
                                      by_cases c34 : x40_2 < (l0_1.length : Int)
                                      · rw [if_pos c34] at H
                                        have c34b0 : decide (x40_2 < (l0_1.length : Int)) = true := decide_eq_true c34
                                        clear c34
                                        have H' := Aside0.mk H
                                        clear H
                                        have hcz35_0 : wc.cell? ⟨gb603, 0, none⟩ = some (.int .i64 a0_0) := (blk_cell BK603.out 0).trans rfl
                                        have hcz35_1 : wc.cell? ⟨gb603, 1, none⟩ = some (.slice A0_1 l0_1.length c0_1) := (blk_cell BK603.out 1).trans rfl
                                        have hcz35_2 : wc.cell? ⟨gb603, 2, none⟩ = some (.slice A0_2 l0_2.length c0_2) := (blk_cell BK603.out 2).trans rfl
                                        have hfz35_0 := blk_frozen BK603.out 0
                                        have hfz35_1 := blk_frozen BK603.out 1
                                        have hfz35_2 := blk_frozen BK603.out 2
                                        have p620 : 0 ≤ (x40_2 : Int) := of_decide_eq_true (by first | (with_reducible assumption) | assumption)
                                        have q620 : x40_2 < (l0_1.length : Int) := of_decide_eq_true (by first | (with_reducible assumption) | assumption)
                                        obtain ⟨ad620, A620_0, c620_0, e620, hx620_0, hl620_0, hi620_0⟩ := at_L1 HR0_1.out x40_2 p620 q620
                                        cases e620
                                        replace hx620_0 := (HB.out.cell (World.block_lt_of_cell? w _ hx620_0)).trans hx620_0
                                        have HR620_0 := Aside0.mk hi620_0
                                        have HC620_0 := Aside0.mk hl620_0
                                        clear hi620_0 hl620_0
                                        replace p620 := eq_true p620
                                        replace q620 := eq_true q620
                                        go_wp2
                                        go_loopg [60] kj28 (fun kq v60 w' => ∃ (x8_4 : List Bool) (x60_4 : Int), v60 = .int .i64 x60_4 ∧ Aside0 (spec_eqLengths.l2 kq x3_1 x5_1 x6_1 x7_28 x8_4 x4_1 (x4_1.length : Int) x40_2 (rd_L1 l0_1 x40_2) ((rd_L1 l0_1 x40_2).length : Int) x60_4 a0_0 l0_1 l0_2 = some r) ∧ Aside0 (kq ≤ kj28) ∧ Aside0 (Kd.R Kd.bool 4 w' w.heap.size (fun k_ => some k_ ≠ (u5 : Value).ownBlock ∧ some k_ ≠ (v613 : Value).ownBlock ∧ some k_ ≠ ((.slice (some ad618) x4_1.length co23) : Value).ownBlock) (.slice (some ad610) x3_1.length co14) x3_1) ∧ Aside0 (Kd.R Kd.bool 4 w' w.heap.size (fun k_ => some k_ ≠ ((.slice (some ad610) x3_1.length co14) : Value).ownBlock ∧ some k_ ≠ (v613 : Value).ownBlock ∧ some k_ ≠ ((.slice (some ad618) x4_1.length co23) : Value).ownBlock) u5 x5_1) ∧ Aside0 (Kd.R Kd.bool 4 w' w.heap.size (fun k_ => some k_ ≠ ((.slice (some ad610) x3_1.length co14) : Value).ownBlock ∧ some k_ ≠ (u5 : Value).ownBlock ∧ some k_ ≠ ((.slice (some ad618) x4_1.length co23) : Value).ownBlock) v613 x8_4) ∧ Aside0 (Kd.R Kd.bool 4 w' w.heap.size (fun k_ => some k_ ≠ ((.slice (some ad610) x3_1.length co14) : Value).ownBlock ∧ some k_ ≠ (u5 : Value).ownBlock ∧ some k_ ≠ (v613 : Value).ownBlock) (.slice (some ad618) x4_1.length co23) x4_1) ∧ Aside0 (w'.heap[gb603]? = some (.cells #[.int .i64 a0_0, (.slice (some ad620) l0_1.length c0_1), (.slice A0_2 l0_2.length c0_2)] 29 (0, 0))) ∧ Aside0 (Below w.heap.size w w'))
                                        case atStart => exact ⟨(x8_2), (0), (by first | rfl | (simp; done) | (simp [*]; done)), H', ⟨Nat.le_refl _⟩, ⟨by (try simp only [hl3_1]); (with_reducible repeat (first | apply Kd.R_alloc | apply Kd.R_drewN | apply Kd.R_drew)); exact HO_3.out⟩, ⟨by (try simp only [hl3_1]); (with_reducible repeat (first | apply Kd.R_alloc | apply Kd.R_drewN | apply Kd.R_drew)); exact HO_5.out⟩, ⟨by (try simp only [hl3_1]); (with_reducible repeat (first | apply Kd.R_alloc | apply Kd.R_drewN | apply Kd.R_drew)); exact HO_8.out⟩, ⟨by (try simp only [hl3_1]); (with_reducible repeat (first | apply Kd.R_alloc | apply Kd.R_drewN | apply Kd.R_drew)); exact HO_38.out⟩, ⟨by (try simp only [hl3_1]); (with_reducible repeat (first | refine blk_drewN ?_ _ | refine blk_drew ?_ | refine blk_alloc ?_ _)); exact BK603.out⟩, ⟨by repeat (first | (with_reducible first | exact HB.out | apply below_alloc | apply pw_below_drewN | apply below_drew1 | refine below_set ?_ GE603.out) | exact HB.out)⟩⟩
                                        case round =>
                                          clear H'
                                          try clear c1
                                          try clear c2
                                          try clear p2
                                          try clear q2
                                          try clear c3
                                          try clear c3b0
                                          try clear c3b1
                                          try clear c4
                                          try clear c4b0
                                          try clear c4b1
                                          try clear c5
                                          try clear c5b0
                                          try clear c5b1
                                          try clear c6
                                          try clear c6b0
                                          try clear c6b1
                                          try clear p6
                                          try clear q6
                                          try clear hx6
                                          try clear qi6
                                          try clear p7
                                          try clear q7
                                          try clear hx7
                                          try clear qi7
                                          try clear hf7
                                          try clear c17
                                          try clear c17b0
                                          try clear c18
                                          try clear c18b0
                                          try clear c18b1
                                          try clear c19
                                          try clear c19b0
                                          try clear c19b1
                                          try clear c24
                                          try clear c24b0
                                          try clear c25
                                          try clear c25b0
                                          try clear c26
                                          try clear c26b0
                                          try clear q27
                                          try clear c28
                                          try clear c30
                                          try clear c33
                                          try clear c33b0
                                          try clear c34
                                          try clear c34b0
                                          try clear hcz11_0
                                          try clear hcz11_1
                                          try clear hcz11_2
                                          try clear hcz20_0
                                          try clear hcz20_1
                                          try clear hcz20_2
                                          try clear hcz32_0
                                          try clear hcz32_1
                                          try clear hcz32_2
                                          try clear hcz35_0
                                          try clear hcz35_1
                                          try clear hcz35_2
                                          try clear hcz9_0
                                          try clear hcz9_1
                                          try clear hcz9_2
                                          try clear hfz11_0
                                          try clear hfz11_1
                                          try clear hfz11_2
                                          try clear hfz20_0
                                          try clear hfz20_1
                                          try clear hfz20_2
                                          try clear hfz32_0
                                          try clear hfz32_1
                                          try clear hfz32_2
                                          try clear hfz35_0
                                          try clear hfz35_1
                                          try clear hfz35_2
                                          try clear hfz9_0
                                          try clear hfz9_1
                                          try clear hfz9_2
                                          try clear hx610_0
                                          try clear hx618_0
                                          try clear hx620_0
                                          try clear hx7_0
                                          try clear p2
                                          try clear p6
                                          try clear p610
                                          try clear p618
                                          try clear p620
                                          try clear p7
                                          try clear q2
                                          try clear q27
                                          try clear q6
                                          try clear q610
                                          try clear q618
                                          try clear q620
                                          try clear q7
                                          obtain ⟨x8_4, x60_4, rfl, HA, HK4, HO_3, HO_5, HO_8, HO_38, BK603, HB⟩ := hrel
                                          cases gk with
                                          | zero => exact absurd HA.out (by simp [spec_eqLengths.l2])
                                          | succ k4 =>
                                            have H := HA.out
                                            clear HA
                                            simp only [spec_eqLengths.l2] at H
                                            by_cases c36 : x60_4 < ((rd_L1 l0_1 x40_2).length : Int)
                                            · rw [if_pos c36] at H
                                              have c36b0 : decide (x60_4 < ((rd_L1 l0_1 x40_2).length : Int)) = true := decide_eq_true c36
                                              clear c36
                                              by_cases c37 : 0 ≤ x60_4
                                              · rw [if_pos c37] at H
                                                have c37b0 : decide (0 ≤ x60_4) = true := decide_eq_true c37
                                                clear c37
                                                by_cases c38 : x60_4 < ((rd_L1 l0_1 x40_2).length : Int)
                                                · rw [if_pos c38] at H
                                                  have c38b0 : decide (x60_4 < ((rd_L1 l0_1 x40_2).length : Int)) = true := decide_eq_true c38
                                                  clear c38
                                                  by_cases c39 : 0 ≤ (rd (rd_L1 l0_1 x40_2) x60_4)
                                                  · rw [if_pos c39] at H
                                                    have c39b0 : decide (0 ≤ (rd (rd_L1 l0_1 x40_2) x60_4)) = true := decide_eq_true c39
                                                    clear c39
                                                    by_cases c40 : (rd (rd_L1 l0_1 x40_2) x60_4) < (x8_4.length : Int)
                                                    · rw [if_pos c40] at H
                                                      have c40b0 : decide ((rd (rd_L1 l0_1 x40_2) x60_4) < (x8_4.length : Int)) = true := decide_eq_true c40
                                                      clear c40
                                                      obtain ⟨bq41, hbq41⟩ : ∃ b_ : Bool, b_ = (rdOf false x8_4 (rd (rd_L1 l0_1 x40_2) x60_4)) := ⟨_, rfl⟩
                                                      replace H : (if bq41 = true then (spec_eqLengths.l2 k4 x3_1 x5_1 x6_1 x7_28 (x8_4.set ((rd (rd_L1 l0_1 x40_2) x60_4) : Int).toNat true) x4_1 (x4_1.length : Int) x40_2 (rd_L1 l0_1 x40_2) ((rd_L1 l0_1 x40_2).length : Int) (wrap64 (x60_4 + 1)) a0_0 l0_1 l0_2) else (if (rd (rd_L1 l0_1 x40_2) x60_4) < (x3_1.length : Int) then (spec_eqLengths.l2 k4 x3_1 x5_1 x6_1 x7_28 (x8_4.set ((rd (rd_L1 l0_1 x40_2) x60_4) : Int).toNat (rdOf false x3_1 (rd (rd_L1 l0_1 x40_2) x60_4))) x4_1 (x4_1.length : Int) x40_2 (rd_L1 l0_1 x40_2) ((rd_L1 l0_1 x40_2).length : Int) (wrap64 (x60_4 + 1)) a0_0 l0_1 l0_2) else (none))) = some r := by rw [← hbq41] at H; exact H
                                                      have Nbq41 := Aside0.mk hbq41
                                                      clear hbq41
                                                      by_cases c42 : bq41 = true
                                                      · subst c42
                                                        have H1 : (spec_eqLengths.l2 k4 x3_1 x5_1 x6_1 x7_28 (x8_4.set ((rd (rd_L1 l0_1 x40_2) x60_4) : Int).toNat true) x4_1 (x4_1.length : Int) x40_2 (rd_L1 l0_1 x40_2) ((rd_L1 l0_1 x40_2).length : Int) (wrap64 (x60_4 + 1)) a0_0 l0_1 l0_2) = some r := by rw [if_pos rfl] at H; exact H
                                                        clear H
                                                        have H := H1
                                                        clear H1
                                                        obtain ⟨y623, hy623⟩ : ∃ y_ : List Bool, y_ = (x8_4.set ((rd (rd_L1 l0_1 x40_2) x60_4) : Int).toNat true) := ⟨_, rfl⟩
                                                        replace H : (spec_eqLengths.l2 k4 x3_1 x5_1 x6_1 x7_28 y623 x4_1 (x4_1.length : Int) x40_2 (rd_L1 l0_1 x40_2) ((rd_L1 l0_1 x40_2).length : Int) (wrap64 (x60_4 + 1)) a0_0 l0_1 l0_2) = some r := by first | (rw [hy623]; with_reducible exact H) | (have H2_ := (Option.bind_some _ _).symm.trans H; rw [hy623]; with_reducible exact H2_) | (have H2_ := (Option.bind_some _ _).symm.trans H; with_reducible exact H2_) | with_reducible exact H | (rw [hy623]; exact H) | exact H
                                                        have Ny623 := Aside0.mk hy623
                                                        clear hy623
                                                        have H' := Aside0.mk H
                                                        clear H
                                                        have p621 : 0 ≤ (x60_4 : Int) := of_decide_eq_true (by first | (with_reducible assumption) | assumption)
                                                        have q621 : x60_4 < ((rd_L1 l0_1 x40_2).length : Int) := of_decide_eq_true (by first | (with_reducible assumption) | assumption)
                                                        obtain ⟨ad621, e621, hx621_0⟩ := Kd.at_int HR620_0.out x60_4 p621 q621
                                                        cases e621
                                                        replace hx621_0 := (HB.out.cell (World.block_lt_of_cell? w _ hx621_0)).trans hx621_0
                                                        replace p621 := eq_true p621
                                                        replace q621 := eq_true q621
                                                        obtain ⟨Ao44, co44, eo44⟩ := Kd.R_slice HO_8.out
                                                        subst eo44
                                                        have p622 : 0 ≤ ((rd (rd_L1 l0_1 x40_2) x60_4) : Int) := of_decide_eq_true (by first | (with_reducible assumption) | assumption)
                                                        have q622 : (rd (rd_L1 l0_1 x40_2) x60_4) < (x8_4.length : Int) := of_decide_eq_true (by first | (with_reducible assumption) | assumption)
                                                        obtain ⟨ad622, e622, hx622_0⟩ := Kd.at_bool (Kd.R_reads' HO_8.out).2.2 (rd (rd_L1 l0_1 x40_2) x60_4) p622 q622
                                                        (try rw [← Nbq27.out] at hx622_0)
                                                        (try rw [← Nbq41.out] at hx622_0)
                                                        cases e622
                                                        replace p622 := eq_true p622
                                                        replace q622 := eq_true q622
                                                        have p43 : 0 ≤ ((rd (rd_L1 l0_1 x40_2) x60_4) : Int) := of_decide_eq_true (by first | (with_reducible assumption) | assumption)
                                                        have q43 : ((rd (rd_L1 l0_1 x40_2) x60_4) : Int) < ((x8_4.length : Int) : Int) := of_decide_eq_true (by first | (with_reducible assumption) | assumption)
                                                        obtain ⟨go43, co43, eo43, gb43, gl43, cl43, HG43⟩ := Kd.R_form HO_8.out (by omega)
                                                        (first | cases eo43 | (injection eo43 with ea_ en_ ec_; (first | subst ea_ | (injection ea_ with ea_; subst ea_)); subst ec_; clear en_))
                                                        have GB43 := Aside0.mk gb43
                                                        have GG43 := Aside0.mk HG43
                                                        clear gb43 gl43 HG43
                                                        (first | simp only [add_plain] at hx622_0 | skip)
                                                        obtain ⟨hx43_0, hf43_0⟩ := Kd.R_celln false HO_8.out ((rd (rd_L1 l0_1 x40_2) x60_4) : Int) p43 q43
                                                        replace p43 := eq_true p43
                                                        replace q43 := eq_true q43
                                                        have HP45 := Kd.R_putg HO_8.out ((rd (rd_L1 l0_1 x40_2) x60_4) : Int) true
                                                        go_wp2_with (first | ((with_reducible refine gate_store (t := 4) (p := 76) rfl ?_); refine store_event (t := 4) (p := 76) (v := ?vo_w46) (w1 := (wr.setCell ⟨go43, ((rd (rd_L1 l0_1 x40_2) x60_4) : Int).toNat, none⟩ (.bool true))) ?hg ?ho ?hn ?hr ?_; (case ho => rfl); (case hg => rfl); (case hn => rfl); (case hr => first | (go_simp; done) | (go_simp; rfl)); intro w46 hw; have hg : wr.grownBy w46 (some go43) := (by rw [hw]; exact HP45.2); have hp_ : Kd.R Kd.bool 4 w46 w.heap.size (fun k_ => some k_ ≠ (.slice (some ad610) x3_1.length co14 : Value).ownBlock ∧ some k_ ≠ (u5 : Value).ownBlock ∧ some k_ ≠ (.slice (some ad618) x4_1.length co23 : Value).ownBlock) (.slice (some ⟨go43, 0, none⟩) x8_4.length co44) y623 := (by rw [hw, Ny623.out]; exact HP45.1); clear HP45; have n0_ := Aside0.mk (Kd.R_after (v := (.slice (some ⟨go43, 0, none⟩) x8_4.length co44)) (v1 := (.slice (some ⟨go43, 0, none⟩) x8_4.length co44)) (ok := (fun k_ => some k_ ≠ (u5 : Value).ownBlock ∧ some k_ ≠ (.slice (some ad618) x4_1.length co23 : Value).ownBlock)) (by (with_reducible repeat (first | apply Kd.R_alloc | apply Kd.R_drewN | apply Kd.R_drew)); exact Kd.R_mono HO_3.out (fun _ hk => ⟨⟨hk.1, hk.2.2⟩, hk.2.1⟩)) hg (.inl rfl)); have n1_ := Aside0.mk (Kd.R_after (v := (.slice (some ⟨go43, 0, none⟩) x8_4.length co44)) (v1 := (.slice (some ⟨go43, 0, none⟩) x8_4.length co44)) (ok := (fun k_ => some k_ ≠ (.slice (some ad610) x3_1.length co14 : Value).ownBlock ∧ some k_ ≠ (.slice (some ad618) x4_1.length co23 : Value).ownBlock)) (by (with_reducible repeat (first | apply Kd.R_alloc | apply Kd.R_drewN | apply Kd.R_drew)); exact Kd.R_mono HO_5.out (fun _ hk => ⟨⟨hk.1, hk.2.2⟩, hk.2.1⟩)) hg (.inl rfl)); have n2_ := Aside0.mk (hp_); have n3_ := Aside0.mk (Kd.R_after (v := (.slice (some ⟨go43, 0, none⟩) x8_4.length co44)) (v1 := (.slice (some ⟨go43, 0, none⟩) x8_4.length co44)) (ok := (fun k_ => some k_ ≠ (.slice (some ad610) x3_1.length co14 : Value).ownBlock ∧ some k_ ≠ (u5 : Value).ownBlock)) (by (with_reducible repeat (first | apply Kd.R_alloc | apply Kd.R_drewN | apply Kd.R_drew)); exact Kd.R_mono HO_38.out (fun _ hk => ⟨⟨hk.1, hk.2.1⟩, hk.2.2⟩)) hg (.inl rfl)); have n4_ := Aside0.mk (blk_grown (g := gb603) (o := .cells #[.int .i64 a0_0, .slice (some ad620) l0_1.length c0_1, .slice A0_2 l0_2.length c0_2] 29 (0, 0)) (by (with_reducible repeat (first | refine blk_drewN ?_ _ | refine blk_drew ?_ | refine blk_alloc ?_ _)); exact BK603.out) hg (Kd.R_ne HO_8.out BK603.out (by decide))); have n5_ := Aside0.mk ((by rw [hw]; exact below_set (HB.out) GB43.out : Below w.heap.size w w46)); clear HO_3; clear HO_5; clear HO_8; clear HO_38; clear BK603; clear HB; have HO_3 := n0_; have HO_5 := n1_; have HO_8 := n2_; have HO_38 := n3_; have BK603 := n4_; have HB := n5_; clear n0_ n1_ n2_ n3_ n4_ n5_; clear hg hw hp_))
                                                        go_roundg k4
                                                        case measure => have := HK1.out; have := HK2.out; have := HJ28.out; have := HK4.out; omega
                                                        case rel => exact ⟨(y623), (wrap64 (x60_4 + 1)), (by first | rfl | (simp; done) | (simp [*]; done)), H', ⟨by have := HK1.out; have := HK2.out; have := HJ28.out; have := HK4.out; omega⟩, ⟨by (try simp only [hl3_1]); (with_reducible repeat (first | apply Kd.R_alloc | apply Kd.R_drewN | apply Kd.R_drew)); exact Kd.R_mono HO_3.out (fun _ hk => ⟨hk.1.1, ⟨hk.2, hk.1.2⟩⟩)⟩, ⟨by (try simp only [hl3_1]); (with_reducible repeat (first | apply Kd.R_alloc | apply Kd.R_drewN | apply Kd.R_drew)); exact Kd.R_mono HO_5.out (fun _ hk => ⟨hk.1.1, ⟨hk.2, hk.1.2⟩⟩)⟩, ⟨by (try simp only [hl3_1]); (with_reducible repeat (first | apply Kd.R_alloc | apply Kd.R_drewN | apply Kd.R_drew)); exact HO_8.out⟩, ⟨by (try simp only [hl3_1]); (with_reducible repeat (first | apply Kd.R_alloc | apply Kd.R_drewN | apply Kd.R_drew)); exact Kd.R_mono HO_38.out (fun _ hk => ⟨hk.1.1, ⟨hk.1.2, hk.2⟩⟩)⟩, ⟨by (try simp only [hl3_1]); (with_reducible repeat (first | refine blk_drewN ?_ _ | refine blk_drew ?_ | refine blk_alloc ?_ _)); exact BK603.out⟩, ⟨by repeat (first | (with_reducible first | exact HB.out | apply below_alloc | apply pw_below_drewN | apply below_drew1 | refine below_set ?_ GE603.out) | exact HB.out)⟩⟩
                                                      · replace c42 := Bool.eq_false_iff.mpr c42
                                                        subst c42
                                                        have H1 : (if (rd (rd_L1 l0_1 x40_2) x60_4) < (x3_1.length : Int) then (spec_eqLengths.l2 k4 x3_1 x5_1 x6_1 x7_28 (x8_4.set ((rd (rd_L1 l0_1 x40_2) x60_4) : Int).toNat (rdOf false x3_1 (rd (rd_L1 l0_1 x40_2) x60_4))) x4_1 (x4_1.length : Int) x40_2 (rd_L1 l0_1 x40_2) ((rd_L1 l0_1 x40_2).length : Int) (wrap64 (x60_4 + 1)) a0_0 l0_1 l0_2) else (none)) = some r := by rw [if_neg (show ¬ (false = true) by decide)] at H; exact H
                                                        clear H
                                                        have H := H1
                                                        clear H1
                                                        by_cases c47 : (rd (rd_L1 l0_1 x40_2) x60_4) < (x3_1.length : Int)
                                                        · rw [if_pos c47] at H
                                                          have c47b0 : decide ((rd (rd_L1 l0_1 x40_2) x60_4) < (x3_1.length : Int)) = true := decide_eq_true c47
                                                          clear c47
                                                          obtain ⟨y625, hy625⟩ : ∃ y_ : List Bool, y_ = (x8_4.set ((rd (rd_L1 l0_1 x40_2) x60_4) : Int).toNat (rdOf false x3_1 (rd (rd_L1 l0_1 x40_2) x60_4))) := ⟨_, rfl⟩
                                                          replace H : (spec_eqLengths.l2 k4 x3_1 x5_1 x6_1 x7_28 y625 x4_1 (x4_1.length : Int) x40_2 (rd_L1 l0_1 x40_2) ((rd_L1 l0_1 x40_2).length : Int) (wrap64 (x60_4 + 1)) a0_0 l0_1 l0_2) = some r := by first | (rw [hy625]; with_reducible exact H) | (have H2_ := (Option.bind_some _ _).symm.trans H; rw [hy625]; with_reducible exact H2_) | (have H2_ := (Option.bind_some _ _).symm.trans H; with_reducible exact H2_) | with_reducible exact H | (rw [hy625]; exact H) | exact H
                                                          have Ny625 := Aside0.mk hy625
                                                          clear hy625
                                                          have H' := Aside0.mk H
                                                          clear H
                                                          have p621 : 0 ≤ (x60_4 : Int) := of_decide_eq_true (by first | (with_reducible assumption) | assumption)
                                                          have q621 : x60_4 < ((rd_L1 l0_1 x40_2).length : Int) := of_decide_eq_true (by first | (with_reducible assumption) | assumption)
                                                          obtain ⟨ad621, e621, hx621_0⟩ := Kd.at_int HR620_0.out x60_4 p621 q621
                                                          cases e621
                                                          replace hx621_0 := (HB.out.cell (World.block_lt_of_cell? w _ hx621_0)).trans hx621_0
                                                          replace p621 := eq_true p621
                                                          replace q621 := eq_true q621
                                                          obtain ⟨Ao49, co49, eo49⟩ := Kd.R_slice HO_8.out
                                                          subst eo49
                                                          have p622 : 0 ≤ ((rd (rd_L1 l0_1 x40_2) x60_4) : Int) := of_decide_eq_true (by first | (with_reducible assumption) | assumption)
                                                          have q622 : (rd (rd_L1 l0_1 x40_2) x60_4) < (x8_4.length : Int) := of_decide_eq_true (by first | (with_reducible assumption) | assumption)
                                                          obtain ⟨ad622, e622, hx622_0⟩ := Kd.at_bool (Kd.R_reads' HO_8.out).2.2 (rd (rd_L1 l0_1 x40_2) x60_4) p622 q622
                                                          (try rw [← Nbq27.out] at hx622_0)
                                                          (try rw [← Nbq41.out] at hx622_0)
                                                          cases e622
                                                          replace p622 := eq_true p622
                                                          replace q622 := eq_true q622
                                                          have p624 : 0 ≤ ((rd (rd_L1 l0_1 x40_2) x60_4) : Int) := of_decide_eq_true (by first | (with_reducible assumption) | assumption)
                                                          have q624 : (rd (rd_L1 l0_1 x40_2) x60_4) < (x3_1.length : Int) := of_decide_eq_true (by first | (with_reducible assumption) | assumption)
                                                          obtain ⟨ad624, e624, hx624_0⟩ := Kd.at_bool (Kd.R_reads' HO_3.out).2.2 (rd (rd_L1 l0_1 x40_2) x60_4) p624 q624
                                                          (try rw [← Nbq27.out] at hx624_0)
                                                          (try rw [← Nbq41.out] at hx624_0)
                                                          obtain rfl : ad610 = ad624 := (by injection e624)
                                                          replace p624 := eq_true p624
                                                          replace q624 := eq_true q624
                                                          have p48 : 0 ≤ ((rd (rd_L1 l0_1 x40_2) x60_4) : Int) := of_decide_eq_true (by first | (with_reducible assumption) | assumption)
                                                          have q48 : ((rd (rd_L1 l0_1 x40_2) x60_4) : Int) < ((x8_4.length : Int) : Int) := of_decide_eq_true (by first | (with_reducible assumption) | assumption)
                                                          obtain ⟨go48, co48, eo48, gb48, gl48, cl48, HG48⟩ := Kd.R_form HO_8.out (by omega)
                                                          (first | cases eo48 | (injection eo48 with ea_ en_ ec_; (first | subst ea_ | (injection ea_ with ea_; subst ea_)); subst ec_; clear en_))
                                                          have GB48 := Aside0.mk gb48
                                                          have GG48 := Aside0.mk HG48
                                                          clear gb48 gl48 HG48
                                                          (first | simp only [add_plain] at hx622_0 | skip)
                                                          obtain ⟨hx48_0, hf48_0⟩ := Kd.R_celln false HO_8.out ((rd (rd_L1 l0_1 x40_2) x60_4) : Int) p48 q48
                                                          replace p48 := eq_true p48
                                                          replace q48 := eq_true q48
                                                          have HP50 := Kd.R_putg HO_8.out ((rd (rd_L1 l0_1 x40_2) x60_4) : Int) (rdOf false x3_1 (rd (rd_L1 l0_1 x40_2) x60_4))
                                                          go_wp2_with (first | ((with_reducible refine gate_store (t := 4) (p := 76) rfl ?_); refine store_event (t := 4) (p := 76) (v := ?vo_w51) (w1 := (wr.setCell ⟨go48, ((rd (rd_L1 l0_1 x40_2) x60_4) : Int).toNat, none⟩ (.bool (rdOf false x3_1 (rd (rd_L1 l0_1 x40_2) x60_4))))) ?hg ?ho ?hn ?hr ?_; (case ho => rfl); (case hg => rfl); (case hn => rfl); (case hr => first | (go_simp; done) | (go_simp; rfl)); intro w51 hw; have hg : wr.grownBy w51 (some go48) := (by rw [hw]; exact HP50.2); have hp_ : Kd.R Kd.bool 4 w51 w.heap.size (fun k_ => some k_ ≠ (.slice (some ad610) x3_1.length co14 : Value).ownBlock ∧ some k_ ≠ (u5 : Value).ownBlock ∧ some k_ ≠ (.slice (some ad618) x4_1.length co23 : Value).ownBlock) (.slice (some ⟨go48, 0, none⟩) x8_4.length co49) y625 := (by rw [hw, Ny625.out]; exact HP50.1); clear HP50; have n0_ := Aside0.mk (Kd.R_after (v := (.slice (some ⟨go48, 0, none⟩) x8_4.length co49)) (v1 := (.slice (some ⟨go48, 0, none⟩) x8_4.length co49)) (ok := (fun k_ => some k_ ≠ (u5 : Value).ownBlock ∧ some k_ ≠ (.slice (some ad618) x4_1.length co23 : Value).ownBlock)) (by (with_reducible repeat (first | apply Kd.R_alloc | apply Kd.R_drewN | apply Kd.R_drew)); exact Kd.R_mono HO_3.out (fun _ hk => ⟨⟨hk.1, hk.2.2⟩, hk.2.1⟩)) hg (.inl rfl)); have n1_ := Aside0.mk (Kd.R_after (v := (.slice (some ⟨go48, 0, none⟩) x8_4.length co49)) (v1 := (.slice (some ⟨go48, 0, none⟩) x8_4.length co49)) (ok := (fun k_ => some k_ ≠ (.slice (some ad610) x3_1.length co14 : Value).ownBlock ∧ some k_ ≠ (.slice (some ad618) x4_1.length co23 : Value).ownBlock)) (by (with_reducible repeat (first | apply Kd.R_alloc | apply Kd.R_drewN | apply Kd.R_drew)); exact Kd.R_mono HO_5.out (fun _ hk => ⟨⟨hk.1, hk.2.2⟩, hk.2.1⟩)) hg (.inl rfl)); have n2_ := Aside0.mk (hp_); have n3_ := Aside0.mk (Kd.R_after (v := (.slice (some ⟨go48, 0, none⟩) x8_4.length co49)) (v1 := (.slice (some ⟨go48, 0, none⟩) x8_4.length co49)) (ok := (fun k_ => some k_ ≠ (.slice (some ad610) x3_1.length co14 : Value).ownBlock ∧ some k_ ≠ (u5 : Value).ownBlock)) (by (with_reducible repeat (first | apply Kd.R_alloc | apply Kd.R_drewN | apply Kd.R_drew)); exact Kd.R_mono HO_38.out (fun _ hk => ⟨⟨hk.1, hk.2.1⟩, hk.2.2⟩)) hg (.inl rfl)); have n4_ := Aside0.mk (blk_grown (g := gb603) (o := .cells #[.int .i64 a0_0, .slice (some ad620) l0_1.length c0_1, .slice A0_2 l0_2.length c0_2] 29 (0, 0)) (by (with_reducible repeat (first | refine blk_drewN ?_ _ | refine blk_drew ?_ | refine blk_alloc ?_ _)); exact BK603.out) hg (Kd.R_ne HO_8.out BK603.out (by decide))); have n5_ := Aside0.mk ((by rw [hw]; exact below_set (HB.out) GB48.out : Below w.heap.size w w51)); clear HO_3; clear HO_5; clear HO_8; clear HO_38; clear BK603; clear HB; have HO_3 := n0_; have HO_5 := n1_; have HO_8 := n2_; have HO_38 := n3_; have BK603 := n4_; have HB := n5_; clear n0_ n1_ n2_ n3_ n4_ n5_; clear hg hw hp_))
                                                          go_roundg k4
                                                          case measure => have := HK1.out; have := HK2.out; have := HJ28.out; have := HK4.out; omega
                                                          case rel => exact ⟨(y625), (wrap64 (x60_4 + 1)), (by first | rfl | (simp; done) | (simp [*]; done)), H', ⟨by have := HK1.out; have := HK2.out; have := HJ28.out; have := HK4.out; omega⟩, ⟨by (try simp only [hl3_1]); (with_reducible repeat (first | apply Kd.R_alloc | apply Kd.R_drewN | apply Kd.R_drew)); exact Kd.R_mono HO_3.out (fun _ hk => ⟨hk.1.1, ⟨hk.2, hk.1.2⟩⟩)⟩, ⟨by (try simp only [hl3_1]); (with_reducible repeat (first | apply Kd.R_alloc | apply Kd.R_drewN | apply Kd.R_drew)); exact Kd.R_mono HO_5.out (fun _ hk => ⟨hk.1.1, ⟨hk.2, hk.1.2⟩⟩)⟩, ⟨by (try simp only [hl3_1]); (with_reducible repeat (first | apply Kd.R_alloc | apply Kd.R_drewN | apply Kd.R_drew)); exact HO_8.out⟩, ⟨by (try simp only [hl3_1]); (with_reducible repeat (first | apply Kd.R_alloc | apply Kd.R_drewN | apply Kd.R_drew)); exact Kd.R_mono HO_38.out (fun _ hk => ⟨hk.1.1, ⟨hk.1.2, hk.2⟩⟩)⟩, ⟨by (try simp only [hl3_1]); (with_reducible repeat (first | refine blk_drewN ?_ _ | refine blk_drew ?_ | refine blk_alloc ?_ _)); exact BK603.out⟩, ⟨by repeat (first | (with_reducible first | exact HB.out | apply below_alloc | apply pw_below_drewN | apply below_drew1 | refine below_set ?_ GE603.out) | exact HB.out)⟩⟩
                                                        · rw [if_neg c47] at H
                                                          exact absurd H (by simp)
                                                    · rw [if_neg c40] at H
                                                      exact absurd H (by simp)
                                                  · rw [if_neg c39] at H
                                                    exact absurd H (by simp)
                                                · rw [if_neg c38] at H
                                                  exact absurd H (by simp)
                                              · rw [if_neg c37] at H
                                                exact absurd H (by simp)
                                            · rw [if_neg c36] at H
                                              have c36b0 : decide (x60_4 < ((rd_L1 l0_1 x40_2).length : Int)) = false := decide_eq_false c36
                                              clear c36
                                              have H' := Aside0.mk H
                                              clear H
                                              go_wp2
                                              go_roundg k4
                                              case measure => have := HK1.out; have := HK2.out; have := HJ28.out; have := HK4.out; omega
                                              case rel => exact ⟨(x7_28), (x8_4), (wrap64 (x40_2 + 1)), (by first | rfl | (simp; done) | (simp [*]; done)), (by first | rfl | (simp; done) | (simp [*]; done)), H', ⟨by have := HK1.out; have := HK2.out; have := HJ28.out; have := HK4.out; omega⟩, ⟨by (try simp only [hl3_1]); (with_reducible repeat (first | apply Kd.R_alloc | apply Kd.R_drewN | apply Kd.R_drew)); exact HO_3.out⟩, ⟨by (try simp only [hl3_1]); (with_reducible repeat (first | apply Kd.R_alloc | apply Kd.R_drewN | apply Kd.R_drew)); exact HO_5.out⟩, ⟨by (try simp only [hl3_1]); (with_reducible repeat (first | apply Kd.R_alloc | apply Kd.R_drewN | apply Kd.R_drew)); exact HO_8.out⟩, ⟨by (try simp only [hl3_1]); (with_reducible repeat (first | apply Kd.R_alloc | apply Kd.R_drewN | apply Kd.R_drew)); exact HO_38.out⟩, ⟨by (try simp only [hl3_1]); (with_reducible repeat (first | refine blk_drewN ?_ _ | refine blk_drew ?_ | refine blk_alloc ?_ _)); exact BK603.out⟩, ⟨by repeat (first | (with_reducible first | exact HB.out | apply below_alloc | apply pw_below_drewN | apply below_drew1 | refine below_set ?_ GE603.out) | exact HB.out)⟩⟩
                                      · rw [if_neg c34] at H
                                        exact absurd H (by simp)
                                    · rw [if_neg c33] at H
                                      exact absurd H (by simp)
                              · replace c28 := Bool.eq_false_iff.mpr c28
                                subst c28
                                have H1 : (spec_eqLengths.l1 k2 x3_1 x5_1 x6_1 x7_2 x8_2 x4_1 (x4_1.length : Int) (wrap64 (x40_2 + 1)) a0_0 l0_1 l0_2) = some r := by rw [if_neg (show ¬ (false = true) by decide)] at H; exact H
                                clear H
                                have H := H1
                                clear H1
                                have H' := Aside0.mk H
                                clear H
                                have p618 : 0 ≤ (x40_2 : Int) := of_decide_eq_true (by first | (with_reducible assumption) | assumption)
                                have q618 : x40_2 < (x4_1.length : Int) := of_decide_eq_true (by first | (with_reducible assumption) | assumption)
                                obtain ⟨ad618, e618, hx618_0⟩ := Kd.at_bool (Kd.R_reads' HO_38.out).2.2 x40_2 p618 q618
                                (try rw [← Nbq27.out] at hx618_0)
                                cases e618
                                replace p618 := eq_true p618
                                replace q618 := eq_true q618
                                go_wp2
                                go_roundg k2
                                case measure => have := HK1.out; have := HK2.out; omega
                                case rel => exact ⟨(x7_2), (x8_2), (wrap64 (x40_2 + 1)), (by first | rfl | (simp; done) | (simp [*]; done)), (by first | rfl | (simp; done) | (simp [*]; done)), H', ⟨by have := HK1.out; have := HK2.out; omega⟩, ⟨by (try simp only [hl3_1]); (with_reducible repeat (first | apply Kd.R_alloc | apply Kd.R_drewN | apply Kd.R_drew)); exact HO_3.out⟩, ⟨by (try simp only [hl3_1]); (with_reducible repeat (first | apply Kd.R_alloc | apply Kd.R_drewN | apply Kd.R_drew)); exact HO_5.out⟩, ⟨by (try simp only [hl3_1]); (with_reducible repeat (first | apply Kd.R_alloc | apply Kd.R_drewN | apply Kd.R_drew)); exact HO_8.out⟩, ⟨by (try simp only [hl3_1]); (with_reducible repeat (first | apply Kd.R_alloc | apply Kd.R_drewN | apply Kd.R_drew)); exact HO_38.out⟩, ⟨by (try simp only [hl3_1]); (with_reducible repeat (first | refine blk_drewN ?_ _ | refine blk_drew ?_ | refine blk_alloc ?_ _)); exact BK603.out⟩, ⟨by repeat (first | (with_reducible first | exact HB.out | apply below_alloc | apply pw_below_drewN | apply below_drew1 | refine below_set ?_ GE603.out) | exact HB.out)⟩⟩
                            · rw [if_neg c26] at H
                              exact absurd H (by simp)
                          · rw [if_neg c25] at H
                            exact absurd H (by simp)
                        · rw [if_neg c24] at H
                          have c24b0 : decide (x40_2 < (x4_1.length : Int)) = false := decide_eq_false c24
                          clear c24
                          by_cases c52 : x5_1.length < 140737488355328
                          · rw [if_pos c52] at H
                            have LMc52 := Aside0.mk c52
                            clear c52
                            obtain ⟨y615, hy615⟩ : ∃ y_ : List Bool, y_ = (x5_1 ++ [x7_2]) := ⟨_, rfl⟩
                            replace H : (spec_eqLengths.l0 k2 x3_1 x8_2 y615 (wrap64 (x6_1 + 1)) a0_0 l0_1 l0_2) = some r := by first | (rw [hy615]; with_reducible exact H) | (have H2_ := (Option.bind_some _ _).symm.trans H; rw [hy615]; with_reducible exact H2_) | (have H2_ := (Option.bind_some _ _).symm.trans H; with_reducible exact H2_) | with_reducible exact H | (rw [hy615]; exact H) | exact H
                            have Ny615 := Aside0.mk hy615
                            clear hy615
                            have H' := Aside0.mk H
                            clear H
                            go_wp2_with (first | ((with_reducible refine gate_builtin (b := .append) (xs := #[.tmp 79, .tmp 81]) rfl ?_); at_builtin; refine Kd.R_append Kd.bool (w0 := w) w.heap.size rfl (.tmp 79) (.tmp 81) 62 4 (.bool false) 1 rfl Try.underlying62 info4 rfl (by decide) (by omega) u5 x5_1 x7_2 [.bool x7_2] (fun k_ => some k_ ≠ (.slice (some ad610) x3_1.length co14 : Value).ownBlock ∧ some k_ ≠ (v613 : Value).ownBlock ∧ some k_ ≠ (.slice Ao23 x4_1.length co23 : Value).ownBlock) (fun _ => False) rfl rfl ?aP (fun _ hk => hk.elim) ?aF ?aO ?aB ?aS ?aL ?_; (case aP => exact rfl); (case aB => exact (by repeat (first | (with_reducible first | exact HB.out | apply below_alloc | apply pw_below_drewN | apply below_drew1 | refine below_set ?_ GE603.out) | exact HB.out))); (case aF => exact (fun k_ hk => ⟨Kd.fresh' (Kd.R_lt (by (with_reducible repeat (first | apply Kd.R_alloc | apply Kd.R_drewN | apply Kd.R_drew)); exact HO_3.out)) k_ hk, Kd.fresh' (Kd.R_lt (by (with_reducible repeat (first | apply Kd.R_alloc | apply Kd.R_drewN | apply Kd.R_drew)); exact HO_8.out)) k_ hk, Kd.fresh' (Kd.R_lt (by (with_reducible repeat (first | apply Kd.R_alloc | apply Kd.R_drewN | apply Kd.R_drew)); exact HO_38.out)) k_ hk⟩)); (case aO => exact (by (with_reducible repeat (first | apply Kd.R_alloc | apply Kd.R_drewN | apply Kd.R_drew)); exact HO_5.out)); (case aS => exact (below_size (by repeat (first | (with_reducible first | exact HB.out | apply below_alloc | apply pw_below_drewN | apply below_drew1 | refine below_set ?_ GE603.out) | exact HB.out)))); (case aL => have := LMc52.out; omega); intro v616 w53 ho hb hg hat; rw [← Ny615.out] at ho; have n0_ := Aside0.mk (Kd.R_after (ok := (fun k_ => some k_ ≠ (v613 : Value).ownBlock ∧ some k_ ≠ (.slice Ao23 x4_1.length co23 : Value).ownBlock)) (by (with_reducible repeat (first | apply Kd.R_alloc | apply Kd.R_drewN | apply Kd.R_drew)); exact Kd.R_mono HO_3.out (fun _ hk => ⟨⟨hk.2.1, hk.2.2⟩, hk.1⟩)) hg hat); have n1_ := Aside0.mk (Kd.R_after (ok := (fun k_ => some k_ ≠ (.slice (some ad610) x3_1.length co14 : Value).ownBlock ∧ some k_ ≠ (.slice Ao23 x4_1.length co23 : Value).ownBlock)) (by (with_reducible repeat (first | apply Kd.R_alloc | apply Kd.R_drewN | apply Kd.R_drew)); exact Kd.R_mono HO_8.out (fun _ hk => ⟨⟨hk.1, hk.2.2⟩, hk.2.1⟩)) hg hat); have n2_ := Aside0.mk (Kd.R_after (ok := (fun k_ => some k_ ≠ (.slice (some ad610) x3_1.length co14 : Value).ownBlock ∧ some k_ ≠ (v613 : Value).ownBlock)) (by (with_reducible repeat (first | apply Kd.R_alloc | apply Kd.R_drewN | apply Kd.R_drew)); exact Kd.R_mono HO_38.out (fun _ hk => ⟨⟨hk.1, hk.2.2⟩, hk.2.1⟩)) hg hat); have n3_ := Aside0.mk (blk_grown (g := gb603) (o := .cells #[.int .i64 a0_0, .slice A0_1 l0_1.length c0_1, .slice A0_2 l0_2.length c0_2] 29 (0, 0)) (by (with_reducible repeat (first | refine blk_drewN ?_ _ | refine blk_drew ?_ | refine blk_alloc ?_ _)); exact BK603.out) hg (Kd.R_ne HO_5.out BK603.out (by decide))); have n4_ := Aside0.mk (hb); have n5_ := Aside0.mk (ho); clear HO_3; clear HO_8; clear HO_38; clear BK603; clear HB; clear HO_5; have HO_3 := n0_; have HO_8 := n1_; have HO_38 := n2_; have BK603 := n3_; have HB := n4_; have HO617 := n5_; clear n0_ n1_ n2_ n3_ n4_ n5_; clear ho hb hg hat))
                            (try simp only [← hl3_1])
                            go_roundg k2
                            case measure => have := HK1.out; have := HK2.out; omega
                            case rel => exact ⟨(x3_1), (x8_2), (y615), (wrap64 (x6_1 + 1)), (by first | rfl | (simp; done) | (simp [*]; done)), H', ⟨by have := HK1.out; have := HK2.out; omega⟩, ⟨by (try simp only [hl3_1]); (with_reducible repeat (first | apply Kd.R_alloc | apply Kd.R_drewN | apply Kd.R_drew)); exact Kd.R_mono HO_3.out (fun _ hk => ⟨hk.1.1, hk.2⟩)⟩, ⟨by (try simp only [hl3_1]); (with_reducible repeat (first | apply Kd.R_alloc | apply Kd.R_drewN | apply Kd.R_drew)); exact Kd.R_mono HO_8.out (fun _ hk => ⟨hk.1.1, hk.2⟩)⟩, ⟨by (try simp only [hl3_1]); (with_reducible repeat (first | apply Kd.R_alloc | apply Kd.R_drewN | apply Kd.R_drew)); exact Kd.R_mono HO617.out (fun _ hk => ⟨hk.1, hk.2.1⟩)⟩, ⟨by (try simp only [hl3_1]); (with_reducible repeat (first | refine blk_drewN ?_ _ | refine blk_drew ?_ | refine blk_alloc ?_ _)); exact BK603.out⟩, ⟨by repeat (first | (with_reducible first | exact HB.out | apply below_alloc | apply pw_below_drewN | apply below_drew1 | refine below_set ?_ GE603.out) | exact HB.out)⟩⟩
                          · rw [if_neg c52] at H
                            exact absurd H (by simp)
                  · rw [if_neg c19] at H
                    exact absurd H (by simp)
                · rw [if_neg c18] at H
                  exact absurd H (by simp)
              · rw [if_neg c17] at H
                have c17b0 : decide (x6_1 ≤ (l0_1.length : Int)) = false := decide_eq_false c17
                clear c17
                have H' := Aside0.mk H
                clear H
                have hcz54_0 : wr.cell? ⟨gb603, 0, none⟩ = some (.int .i64 a0_0) := (blk_cell BK603.out 0).trans rfl
                have hcz54_1 : wr.cell? ⟨gb603, 1, none⟩ = some (.slice A0_1 l0_1.length c0_1) := (blk_cell BK603.out 1).trans rfl
                have hcz54_2 : wr.cell? ⟨gb603, 2, none⟩ = some (.slice A0_2 l0_2.length c0_2) := (blk_cell BK603.out 2).trans rfl
                have hfz54_0 := blk_frozen BK603.out 0
                have hfz54_1 := blk_frozen BK603.out 1
                have hfz54_2 := blk_frozen BK603.out 2
                obtain ⟨Ao55, co55, eo55⟩ := Kd.R_slice HO_4.out
                subst eo55
                go_wp2
                go_loopg [13, 86] k1 (fun kq v13 v86 w' => ∃ (x13_2 : Bool) (x86_2 : Int), v13 = .bool x13_2 ∧ v86 = .int .i64 x86_2 ∧ Aside0 (spec_eqLengths.l3 kq x5_1 x13_2 x4_1 (x4_1.length : Int) x86_2 = some r) ∧ Aside0 (kq ≤ k1) ∧ Aside0 (Kd.R Kd.bool 4 w' w.heap.size (fun k_ => some k_ ≠ ((.slice Ao55 x4_1.length co55) : Value).ownBlock) u5 x5_1) ∧ Aside0 (Kd.R Kd.bool 4 w' w.heap.size (fun k_ => some k_ ≠ (u5 : Value).ownBlock) (.slice Ao55 x4_1.length co55) x4_1) ∧ Aside0 (w'.heap[gb603]? = some (.cells #[.int .i64 a0_0, (.slice A0_1 l0_1.length c0_1), (.slice A0_2 l0_2.length c0_2)] 29 (0, 0))) ∧ Aside0 (Below w.heap.size w w'))
                case atStart => exact ⟨(false), (0), (by first | rfl | (simp; done) | (simp [*]; done)), (by first | rfl | (simp; done) | (simp [*]; done)), H', ⟨Nat.le_refl _⟩, ⟨by (try simp only [hl3_1]); (with_reducible repeat (first | apply Kd.R_alloc | apply Kd.R_drewN | apply Kd.R_drew)); exact Kd.R_mono HO_5.out (fun _ hk => hk.2)⟩, ⟨by (try simp only [hl3_1]); (with_reducible repeat (first | apply Kd.R_alloc | apply Kd.R_drewN | apply Kd.R_drew)); exact Kd.R_mono HO_4.out (fun _ hk => hk.2)⟩, ⟨by (try simp only [hl3_1]); (with_reducible repeat (first | refine blk_drewN ?_ _ | refine blk_drew ?_ | refine blk_alloc ?_ _)); exact BK603.out⟩, ⟨by repeat (first | (with_reducible first | exact HB.out | apply below_alloc | apply pw_below_drewN | apply below_drew1 | refine below_set ?_ GE603.out) | exact HB.out)⟩⟩
                case round =>
                  clear H'
                  try clear c1
                  try clear c2
                  try clear p2
                  try clear q2
                  try clear c3
                  try clear c3b0
                  try clear c3b1
                  try clear c4
                  try clear c4b0
                  try clear c4b1
                  try clear p4
                  try clear q4
                  try clear hx4
                  try clear hf4
                  try clear c5
                  try clear c5b0
                  try clear c5b1
                  try clear c6
                  try clear c6b0
                  try clear c6b1
                  try clear p6
                  try clear q6
                  try clear hx6
                  try clear qi6
                  try clear p7
                  try clear q7
                  try clear hx7
                  try clear qi7
                  try clear hf7
                  try clear c17
                  try clear c17b0
                  try clear c18
                  try clear c18b0
                  try clear c18b1
                  try clear c19
                  try clear c19b0
                  try clear c19b1
                  try clear c24
                  try clear c24b0
                  try clear c25
                  try clear c25b0
                  try clear c26
                  try clear c26b0
                  try clear q27
                  try clear c28
                  try clear c30
                  try clear c33
                  try clear c33b0
                  try clear c34
                  try clear c34b0
                  try clear c36
                  try clear c36b0
                  try clear c37
                  try clear c37b0
                  try clear c38
                  try clear c38b0
                  try clear c39
                  try clear c39b0
                  try clear c40
                  try clear c40b0
                  try clear q41
                  try clear c42
                  try clear p43
                  try clear q43
                  try clear hx43
                  try clear hf43
                  try clear c47
                  try clear c47b0
                  try clear p48
                  try clear q48
                  try clear hx48
                  try clear hf48
                  try clear c52
                  try clear hcz11_0
                  try clear hcz11_1
                  try clear hcz11_2
                  try clear hcz20_0
                  try clear hcz20_1
                  try clear hcz20_2
                  try clear hcz32_0
                  try clear hcz32_1
                  try clear hcz32_2
                  try clear hcz35_0
                  try clear hcz35_1
                  try clear hcz35_2
                  try clear hcz54_0
                  try clear hcz54_1
                  try clear hcz54_2
                  try clear hcz9_0
                  try clear hcz9_1
                  try clear hcz9_2
                  try clear hfz11_0
                  try clear hfz11_1
                  try clear hfz11_2
                  try clear hfz20_0
                  try clear hfz20_1
                  try clear hfz20_2
                  try clear hfz32_0
                  try clear hfz32_1
                  try clear hfz32_2
                  try clear hfz35_0
                  try clear hfz35_1
                  try clear hfz35_2
                  try clear hfz54_0
                  try clear hfz54_1
                  try clear hfz54_2
                  try clear hfz9_0
                  try clear hfz9_1
                  try clear hfz9_2
                  try clear hx43_0
                  try clear hx48_0
                  try clear hx610_0
                  try clear hx618_0
                  try clear hx620_0
                  try clear hx621_0
                  try clear hx622_0
                  try clear hx624_0
                  try clear hx7_0
                  try clear p2
                  try clear p43
                  try clear p48
                  try clear p6
                  try clear p610
                  try clear p618
                  try clear p620
                  try clear p621
                  try clear p622
                  try clear p624
                  try clear p7
                  try clear q2
                  try clear q27
                  try clear q43
                  try clear q48
                  try clear q6
                  try clear q610
                  try clear q618
                  try clear q620
                  try clear q621
                  try clear q622
                  try clear q624
                  try clear q7
                  obtain ⟨x13_2, x86_2, rfl, rfl, HA, HK2, HO_5, HO_84, BK603, HB⟩ := hrel
                  cases gk with
                  | zero => exact absurd HA.out (by simp [spec_eqLengths.l3])
                  | succ k2 =>
                    have H := HA.out
                    clear HA
                    simp only [spec_eqLengths.l3] at H
                    by_cases c56 : x86_2 < (x4_1.length : Int)
                    · rw [if_pos c56] at H
                      have c56b0 : decide (x86_2 < (x4_1.length : Int)) = true := decide_eq_true c56
                      clear c56
                      by_cases c57 : 0 ≤ x86_2
                      · rw [if_pos c57] at H
                        have c57b0 : decide (0 ≤ x86_2) = true := decide_eq_true c57
                        clear c57
                        by_cases c58 : x86_2 < (x4_1.length : Int)
                        · rw [if_pos c58] at H
                          have c58b0 : decide (x86_2 < (x4_1.length : Int)) = true := decide_eq_true c58
                          clear c58
                          by_cases c59 : x13_2 = true
                          · subst c59
                            have H1 : (spec_eqLengths.l3 k2 x5_1 true x4_1 (x4_1.length : Int) (wrap64 (x86_2 + 1))) = some r := by rw [if_pos rfl] at H; exact H
                            clear H
                            have H := H1
                            clear H1
                            have H' := Aside0.mk H
                            clear H
                            have p626 : 0 ≤ (x86_2 : Int) := of_decide_eq_true (by first | (with_reducible assumption) | assumption)
                            have q626 : x86_2 < (x4_1.length : Int) := of_decide_eq_true (by first | (with_reducible assumption) | assumption)
                            obtain ⟨ad626, e626, hx626_0⟩ := Kd.at_bool (Kd.R_reads' HO_84.out).2.2 x86_2 p626 q626
                            cases e626
                            replace p626 := eq_true p626
                            replace q626 := eq_true q626
                            go_wp2
                            go_roundg k2
                            case measure => have := HK1.out; have := HK2.out; omega
                            case rel => exact ⟨(true), (wrap64 (x86_2 + 1)), (by first | rfl | (simp; done) | (simp [*]; done)), (by first | rfl | (simp; done) | (simp [*]; done)), H', ⟨by have := HK1.out; have := HK2.out; omega⟩, ⟨by (try simp only [hl3_1]); (with_reducible repeat (first | apply Kd.R_alloc | apply Kd.R_drewN | apply Kd.R_drew)); exact HO_5.out⟩, ⟨by (try simp only [hl3_1]); (with_reducible repeat (first | apply Kd.R_alloc | apply Kd.R_drewN | apply Kd.R_drew)); exact HO_84.out⟩, ⟨by (try simp only [hl3_1]); (with_reducible repeat (first | refine blk_drewN ?_ _ | refine blk_drew ?_ | refine blk_alloc ?_ _)); exact BK603.out⟩, ⟨by repeat (first | (with_reducible first | exact HB.out | apply below_alloc | apply pw_below_drewN | apply below_drew1 | refine below_set ?_ GE603.out) | exact HB.out)⟩⟩
                          · replace c59 := Bool.eq_false_iff.mpr c59
                            subst c59
                            have H1 : (spec_eqLengths.l3 k2 x5_1 (rdOf false x4_1 x86_2) x4_1 (x4_1.length : Int) (wrap64 (x86_2 + 1))) = some r := by rw [if_neg (show ¬ (false = true) by decide)] at H; exact H
                            clear H
                            have H := H1
                            clear H1
                            have H' := Aside0.mk H
                            clear H
                            have p626 : 0 ≤ (x86_2 : Int) := of_decide_eq_true (by first | (with_reducible assumption) | assumption)
                            have q626 : x86_2 < (x4_1.length : Int) := of_decide_eq_true (by first | (with_reducible assumption) | assumption)
                            obtain ⟨ad626, e626, hx626_0⟩ := Kd.at_bool (Kd.R_reads' HO_84.out).2.2 x86_2 p626 q626
                            cases e626
                            replace p626 := eq_true p626
                            replace q626 := eq_true q626
                            go_wp2
                            go_roundg k2
                            case measure => have := HK1.out; have := HK2.out; omega
                            case rel => exact ⟨(rdOf false x4_1 x86_2), (wrap64 (x86_2 + 1)), (by first | rfl | (simp; done) | (simp [*]; done)), (by first | rfl | (simp; done) | (simp [*]; done)), H', ⟨by have := HK1.out; have := HK2.out; omega⟩, ⟨by (try simp only [hl3_1]); (with_reducible repeat (first | apply Kd.R_alloc | apply Kd.R_drewN | apply Kd.R_drew)); exact HO_5.out⟩, ⟨by (try simp only [hl3_1]); (with_reducible repeat (first | apply Kd.R_alloc | apply Kd.R_drewN | apply Kd.R_drew)); exact HO_84.out⟩, ⟨by (try simp only [hl3_1]); (with_reducible repeat (first | refine blk_drewN ?_ _ | refine blk_drew ?_ | refine blk_alloc ?_ _)); exact BK603.out⟩, ⟨by repeat (first | (with_reducible first | exact HB.out | apply below_alloc | apply pw_below_drewN | apply below_drew1 | refine below_set ?_ GE603.out) | exact HB.out)⟩⟩
                        · rw [if_neg c58] at H
                          exact absurd H (by simp)
                      · rw [if_neg c57] at H
                        exact absurd H (by simp)
                    · rw [if_neg c56] at H
                      have c56b0 : decide (x86_2 < (x4_1.length : Int)) = false := decide_eq_false c56
                      clear c56
                      by_cases c60 : x5_1.length < 140737488355328
                      · rw [if_pos c60] at H
                        have LMc60 := Aside0.mk c60
                        clear c60
                        obtain ⟨y627, hy627⟩ : ∃ y_ : List Bool, y_ = (x5_1 ++ [x13_2]) := ⟨_, rfl⟩
                        replace H : (some y627) = some r := by first | (rw [hy627]; with_reducible exact H) | (have H2_ := (Option.bind_some _ _).symm.trans H; rw [hy627]; with_reducible exact H2_) | (have H2_ := (Option.bind_some _ _).symm.trans H; with_reducible exact H2_) | with_reducible exact H | (rw [hy627]; exact H) | exact H
                        have Ny627 := Aside0.mk hy627
                        clear hy627
                        obtain rfl := Option.some.inj H
                        go_wp2_with (first | ((with_reducible refine gate_builtin (b := .append) (xs := #[.tmp 95, .tmp 97]) rfl ?_); at_builtin; refine Kd.R_append Kd.bool (w0 := w) w.heap.size rfl (.tmp 95) (.tmp 97) 62 4 (.bool false) 1 rfl Try.underlying62 info4 rfl (by decide) (by omega) u5 x5_1 x13_2 [.bool x13_2] (fun k_ => some k_ ≠ (.slice Ao55 x4_1.length co55 : Value).ownBlock) (fun _ => False) rfl rfl ?aP (fun _ hk => hk.elim) ?aF ?aO ?aB ?aS ?aL ?_; (case aP => exact rfl); (case aB => exact (by repeat (first | (with_reducible first | exact HB.out | apply below_alloc | apply pw_below_drewN | apply below_drew1 | refine below_set ?_ GE603.out) | exact HB.out))); (case aF => exact (fun k_ hk => Kd.fresh' (Kd.R_lt (by (with_reducible repeat (first | apply Kd.R_alloc | apply Kd.R_drewN | apply Kd.R_drew)); exact HO_84.out)) k_ hk)); (case aO => exact (by (with_reducible repeat (first | apply Kd.R_alloc | apply Kd.R_drewN | apply Kd.R_drew)); exact HO_5.out)); (case aS => exact (below_size (by repeat (first | (with_reducible first | exact HB.out | apply below_alloc | apply pw_below_drewN | apply below_drew1 | refine below_set ?_ GE603.out) | exact HB.out)))); (case aL => have := LMc60.out; omega); intro v628 w61 ho hb hg hat; rw [← Ny627.out] at ho; have n0_ := Aside0.mk (Kd.R_after (ok := (fun _ => True)) (by (with_reducible repeat (first | apply Kd.R_alloc | apply Kd.R_drewN | apply Kd.R_drew)); exact Kd.R_mono HO_84.out (fun _ hk => ⟨trivial, hk⟩)) hg hat); have n1_ := Aside0.mk (blk_grown (g := gb603) (o := .cells #[.int .i64 a0_0, .slice A0_1 l0_1.length c0_1, .slice A0_2 l0_2.length c0_2] 29 (0, 0)) (by (with_reducible repeat (first | refine blk_drewN ?_ _ | refine blk_drew ?_ | refine blk_alloc ?_ _)); exact BK603.out) hg (Kd.R_ne HO_5.out BK603.out (by decide))); have n2_ := Aside0.mk (hb); have n3_ := Aside0.mk (ho); clear HO_84; clear BK603; clear HB; clear HO_5; have HO_84 := n0_; have BK603 := n1_; have HB := n2_; have HO629 := n3_; clear n0_ n1_ n2_ n3_; clear ho hb hg hat))
                        go_ret
                        exact ⟨_, by first | rfl | (simp [errW_none, errW_some] <;> rfl) | (simp [*, errW_none, errW_some] <;> rfl), by (with_reducible repeat (first | apply Kd.R_alloc | apply Kd.R_drewN | apply Kd.R_drew)); exact Kd.R_mono HO629.out (fun _ hk => trivial), by repeat (first | (with_reducible first | exact HB.out | apply below_alloc | apply pw_below_drewN | apply below_drew1 | refine below_set ?_ GE603.out) | exact HB.out)⟩
                      · rw [if_neg c60] at H
                        exact absurd H (by simp)
        · rw [if_neg c6] at H
          exact absurd H (by simp)
      · rw [if_neg c5] at H
        exact absurd H (by simp)
    · rw [if_neg c4] at H
      exact absurd H (by simp)
  · rw [if_neg c3] at H
    exact absurd H (by simp)

end Go.Proofs.Ytkfedkckakegjaa.P
