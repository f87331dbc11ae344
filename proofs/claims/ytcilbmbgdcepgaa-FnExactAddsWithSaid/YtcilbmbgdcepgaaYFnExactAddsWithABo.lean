/- What the printed functions on cells and boards come to: copies, comparison, marks, and the tests whether a board is valid. -/
import Derived.Test.YtcilbmbgdcepgaaZFnExactAddsWith0
import Derived.Test.YtcilbmbgdcepgaaZFnExactAddsWith1
import Derived.Test.YtcilbmbgdcepgaaYFnExactAddsWithABase
namespace Go.Proofs.Ytcilbmbgdcepgaa.A
open Go.RowKit YtcilbmbgdcepgaaW.PrintWords YtcilbmbgdcepgaaW.PrintLast YtcilbmbgdcepgaaW.PrintMore P T
set_option linter.unusedVariables false
set_option linter.unusedSimpArgs false

theorem rdc_mid (pre : List S71) (y : S71) (suf : List S71) : rd_T71 (pre ++ y :: suf) (pre.length : Int) = y := by simp [rd_T71]
/-- The copy of one cell. -/
def cpC (x : S96) : S71 := ⟨x.f0, x.f1⟩
theorem toCells_loop (l : List S96) : ∀ (suf pre : List S96) (qre qsuf : List S71), l = pre ++ suf → l.length ≤ maxLen → qre.length = pre.length → qsuf.length = suf.length →
  Ev (fun k => laws_toCellS.l0 k l (qre ++ qsuf) (pre.length : Int)) (qre ++ suf.map cpC) := by
 intro suf
 induction suf with
 | nil =>
  intro pre qre qsuf hl hm h1 h2
  subst hl
  obtain rfl : qsuf = [] := List.length_eq_zero_iff.1 h2
  refine Ev.step (fun k => laws_toCellS.l0.eq_2 ..) ?_
  refine ev_neg (not_lt_end _) (ev_const (by simp))
 | cons y suf ih =>
  intro pre qre qsuf hl hm h1 h2
  subst hl
  obtain ⟨z, qsuf, rfl⟩ : ∃ z t, qsuf = z :: t := by cases qsuf with | nil => simp at h2 | cons z t => exact ⟨z, t, rfl⟩
  refine Ev.step (fun k => laws_toCellS.l0.eq_2 ..) ?_
  refine ev_pos (lt_mid _ _ _) (ev_pos (by omega) ?_)
  simp only [laws_toCell.f, Option.bind_some, rd_T96, getD_mid]
  refine ev_pos (by rw [← h1]; exact lt_mid _ _ _) ?_
  rw [next_mid _ _ _ hm, ← h1, set_mid]
  have := ih (pre ++ [y]) (qre ++ [cpC y]) qsuf (assoc_mid _ _ _) hm (by simp [h1]) (by simpa using h2)
  simpa [cpC] using this
theorem toCells (l : List S96) (h : l.length ≤ 1048576) : Ev (fun k => laws_toCellS.f k l) (l.map cpC) := by
 have := toCells_loop l l [] [] (List.replicate l.length z71) rfl (by simp only [maxLen]; omega) rfl (by simp)
 unfold laws_toCellS.f
 refine ev_pos (by omega) (ev_pos (by simp; omega) ?_)
 simpa using this
theorem toBo (a b : Int) (l : List S96) (h : l.length ≤ 1048576) : Ev (fun k => laws_toBoard.f k a b l) (a, b, l.map cpC) := by
 unfold laws_toBoard.f
 exact ev_bind (toCells l h) (ev_const rfl)
theorem szBo (r c : Int) (l : List S96) (a : Int) (ha : 0 ≤ a ∧ a ≤ 1048576) (h : l.length ≤ maxLen) : laws_szBoard.f r c l a = some (if a - (l.length : Int) < 0 then -1 else a - (l.length : Int)) := by
 unfold laws_szBoard.f laws_szCellS.f
 simp only [maxLen] at h
 rw [wrap_id (x := a - (l.length : Int)) (by omega) (by omega)]
 by_cases h1 : a - (l.length : Int) < 0
 ·rw [if_pos h1, Option.bind_some, if_pos (by omega), if_pos h1]
 ·rw [if_neg h1, Option.bind_some, if_neg h1, if_neg h1]
theorem eqCells_loop (l : List S71) : ∀ (suf pre : List S71), l = pre ++ suf → l.length ≤ maxLen → Ev (fun k => laws_eqCellS.l0 k l l (pre.length : Int)) true := by
 intro suf
 induction suf with
 | nil =>
  intro pre hl hm
  subst hl
  refine Ev.step (fun k => laws_eqCellS.l0.eq_2 ..) ?_
  refine ev_neg (not_lt_end _) (ev_const rfl)
 | cons y suf ih =>
  intro pre hl hm
  subst hl
  refine Ev.step (fun k => laws_eqCellS.l0.eq_2 ..) ?_
  refine ev_pos (lt_mid _ _ _) (ev_pos (by omega) (ev_pos (lt_mid _ _ _) ?_))
  simp only [laws_eqCell.f, if_true, Option.bind_some]
  rw [next_mid _ _ _ hm]
  exact ih (pre ++ [y]) (assoc_mid _ _ _) hm
theorem eqCells (l : List S71) (h : l.length ≤ maxLen) : Ev (fun k => laws_eqCellS.f k l l) true := by
 unfold laws_eqCellS.f
 exact ev_pos rfl (eqCells_loop l l [] rfl h)
theorem eqBo (a b : Int) (l : List S71) (h : l.length ≤ maxLen) : Ev (fun k => laws_eqBoard.f k a b l a b l) true := by
 unfold laws_eqBoard.f
 exact ev_pos rfl (ev_pos rfl (ev_bind (eqCells l h) (ev_const rfl)))
def CellOk (a b : Int) : Prop := (0 ≤ a ∧ a ≤ 7) ∧ (b = 0 ∨ b = 1 ∧ (a = 3 ∨ a = 6))
instance (a b : Int) : Decidable (CellOk a b) := by unfold CellOk; infer_instance
def BoOk (r c : Int) (l : List S71) : Prop := (1 ≤ r ∧ r ≤ 10) ∧ (1 ≤ c ∧ c ≤ 9) ∧ (l.length : Int) = r * c ∧ ∀ x ∈ l, CellOk x.f0 x.f1
instance (r c : Int) (l : List S71) : Decidable (BoOk r c l) := by unfold BoOk; infer_instance
theorem mul_small {r c : Int} (h1 : 1 ≤ r ∧ r ≤ 10) (h2 : 1 ≤ c ∧ c ≤ 9) : 1 ≤ r * c ∧ r * c ≤ 90 := by
 have h : r = 1 ∨ r = 2 ∨ r = 3 ∨ r = 4 ∨ r = 5 ∨ r = 6 ∨ r = 7 ∨ r = 8 ∨ r = 9 ∨ r = 10 := by omega
 rcases h with rfl | rfl | rfl | rfl | rfl | rfl | rfl | rfl | rfl | rfl <;> omega
theorem BoOk.len {r c : Int} {l : List S71} (h : BoOk r c l) : l.length ≤ 90 := by
 have := mul_small h.1 h.2.1
 have := h.2.2.1
 omega
theorem paTurning (a b : Int) : spec_paTurning.f a b = some (decide (a = 3 ∨ a = 6)) := by
 unfold spec_paTurning.f
 by_cases h : a = 3
 ·rw [if_pos h]; simp [h]
 ·rw [if_neg h]; simp [h, Bool.beq_eq_decide_eq]
theorem paGood (a b : Int) : spec_paGood.f a b = some (decide (CellOk a b)) := by
 unfold spec_paGood.f
 rw [in_f, Option.bind_some, paTurning]
 by_cases h : 0 ≤ a ∧ a ≤ 7
 ·rw [if_pos (by simpa using h)]
  by_cases h1 : b = 0
  ·rw [if_pos h1]; rw [decide_eq_true (show CellOk a b from ⟨h, .inl h1⟩)]
  ·rw [if_neg h1]
   by_cases h2 : b = 1
   ·rw [if_pos h2, Option.bind_some, Option.some.injEq, decide_eq_decide]
    exact ⟨fun h3 => ⟨h, .inr ⟨h2, h3⟩⟩, fun h3 => (h3.2.resolve_left h1).2⟩
   ·rw [if_neg h2, decide_eq_false (fun h3 : CellOk a b => h2 (h3.2.resolve_left h1).1)]
 ·rw [if_neg (by simpa using h), decide_eq_false (fun h3 : CellOk a b => h h3.1)]
theorem isCell (a b : Int) : impl_IsCell.f a b = some (decide (CellOk a b)) := by
 unfold impl_IsCell.f
 by_cases h : 0 ≤ a ∧ a ≤ 7
 ·rw [if_neg (by omega), if_neg (by omega)]
  by_cases h1 : b < 0
  ·rw [if_pos h1, decide_eq_false (fun h3 : CellOk a b => by have := h3.2; omega)]
  rw [if_neg h1]
  by_cases h2 : b > 1
  ·rw [if_pos h2, decide_eq_false (fun h3 : CellOk a b => by have := h3.2; omega)]
  rw [if_neg h2]
  by_cases h3 : b = 0
  ·rw [if_pos h3, decide_eq_true (show CellOk a b from ⟨h, .inl h3⟩)]
  rw [if_neg h3]
  have h4 : b = 1 := by omega
  by_cases h5 : a = 3
  ·rw [if_pos h5, decide_eq_true (show CellOk a b from ⟨h, .inr ⟨h4, .inl h5⟩⟩)]
  ·rw [if_neg h5, Bool.beq_eq_decide_eq, Option.some.injEq, decide_eq_decide]
   exact ⟨fun h6 => ⟨h, .inr ⟨h4, .inr h6⟩⟩, fun h6 => (h6.2.resolve_left h3).2.resolve_left h5⟩
 ·rw [decide_eq_false (fun h3 : CellOk a b => h h3.1)]
  by_cases h1 : a < 0
  ·rw [if_pos h1]
  ·rw [if_neg h1, if_pos (by omega)]
theorem boGood_loop (l : List S71) (hm : l.length ≤ maxLen) : ∀ (suf pre : List S71), l = pre ++ suf →
  Ev (fun k => spec_boGood.l0 k l (l.length : Int) (pre.length : Int)) (decide (∀ x ∈ suf, CellOk x.f0 x.f1)) := by
 intro suf
 induction suf with
 | nil =>
  intro pre hl
  subst hl
  exact Ev.step (fun k => spec_boGood.l0.eq_2 ..) (ev_neg (not_lt_end _) (ev_const (by simp)))
 | cons y suf ih =>
  intro pre hl
  subst hl
  refine Ev.step (fun k => spec_boGood.l0.eq_2 ..) (ev_pos (lt_mid _ _ _) (ev_pos (by omega) (ev_pos (lt_mid _ _ _) ?_)))
  simp only [rdc_mid, paGood, Option.bind_some, decide_eq_true_eq]
  by_cases h : CellOk y.f0 y.f1
  ·refine ev_pos h ?_
   rw [next_mid _ _ _ hm]
   rw [show decide (∀ x ∈ y :: suf, CellOk x.f0 x.f1) = decide (∀ x ∈ suf, CellOk x.f0 x.f1) by rw [decide_eq_decide]; simp [h]]
   exact ih (pre ++ [y]) (assoc_mid _ _ _)
  ·refine ev_neg h (ev_const ?_)
   rw [show decide (∀ x ∈ y :: suf, CellOk x.f0 x.f1) = false from decide_eq_false (fun hh => h (hh y List.mem_cons_self))]
theorem boGood (r c : Int) (l : List S71) (hm : l.length ≤ maxLen) : Ev (fun k => spec_boGood.f k r c l) (decide (BoOk r c l)) := by
 unfold spec_boGood.f
 have no : ∀ b, b = true → ¬ BoOk r c l → Ev (fun k => spec_boGood.j0 k b r c l) (decide (BoOk r c l)) := by
  intro b hb h
  rw [decide_eq_false h]
  exact Ev.step (fun k => spec_boGood.j0.eq_2 ..) (ev_pos hb (ev_const rfl))
 simp only [in_f, Option.bind_some, decide_eq_true_eq]
 by_cases h1 : 1 ≤ r ∧ r ≤ 10
 ·refine ev_pos h1 ?_
  by_cases h2 : 1 ≤ c ∧ c ≤ 9
  ·have h3 := mul_small h1 h2
   refine ev_pos h2 ?_
   rw [wrap_id (by omega) (by omega)]
   by_cases h4 : (l.length : Int) = r * c
   ·rw [show ((l.length : Int) != r * c) = false by simpa using h4]
    refine Ev.step (fun k => spec_boGood.j0.eq_2 ..) (ev_neg (by simp) ?_)
    rw [show decide (BoOk r c l) = decide (∀ x ∈ l, CellOk x.f0 x.f1) from decide_eq_decide.2 ⟨fun h => h.2.2.2, fun h => ⟨h1, h2, h4, h⟩⟩]
    exact boGood_loop l hm l [] rfl
   ·exact no _ (by simpa using h4) (fun h => h4 h.2.2.1)
  ·exact ev_neg h2 (no _ rfl (fun h => h2 h.2.1))
 ·exact ev_neg h1 (no _ rfl (fun h => h1 h.1))
theorem validCells_loop (l : List S71) (hm : l.length ≤ maxLen) : ∀ (suf pre : List S71), l = pre ++ suf →
  Ev (fun k => impl_validCells.l0 k l (l.length : Int) (pre.length : Int)) (decide (∀ x ∈ suf, CellOk x.f0 x.f1)) := by
 intro suf
 induction suf with
 | nil =>
  intro pre hl
  subst hl
  exact Ev.step (fun k => impl_validCells.l0.eq_2 ..) (ev_neg (not_lt_end _) (ev_const (by simp)))
 | cons y suf ih =>
  intro pre hl
  subst hl
  refine Ev.step (fun k => impl_validCells.l0.eq_2 ..) (ev_pos (lt_mid _ _ _) (ev_pos (by omega) (ev_pos (lt_mid _ _ _) ?_)))
  simp only [rdc_mid, isCell, Option.bind_some, decide_eq_true_eq]
  by_cases h : CellOk y.f0 y.f1
  ·refine ev_pos h ?_
   rw [next_mid _ _ _ hm]
   rw [show decide (∀ x ∈ y :: suf, CellOk x.f0 x.f1) = decide (∀ x ∈ suf, CellOk x.f0 x.f1) by rw [decide_eq_decide]; simp [h]]
   exact ih (pre ++ [y]) (assoc_mid _ _ _)
  ·refine ev_neg h (ev_const ?_)
   rw [show decide (∀ x ∈ y :: suf, CellOk x.f0 x.f1) = false from decide_eq_false (fun hh => h (hh y List.mem_cons_self))]
theorem isBoard (r c : Int) (l : List S71) (hm : l.length ≤ maxLen) : Ev (fun k => impl_IsBoard.f k r c l) (decide (BoOk r c l)) := by
 unfold impl_IsBoard.f
 have no : ¬ BoOk r c l → Ev (fun _ : Nat => some false) (decide (BoOk r c l)) := by
  intro h; rw [decide_eq_false h]; exact ev_const rfl
 by_cases h1 : 1 ≤ r
 ·refine ev_pos h1 ?_
  by_cases h2 : r ≤ 10
  ·refine ev_pos h2 ?_
   by_cases h3 : 1 ≤ c
   ·refine ev_pos h3 ?_
    by_cases h4 : c ≤ 9
    ·refine ev_pos h4 ?_
     have h5 := mul_small ⟨h1, h2⟩ ⟨h3, h4⟩
     rw [wrap_id (by omega) (by omega)]
     by_cases h6 : (l.length : Int) = r * c
     ·refine ev_pos h6 ?_
      rw [show decide (BoOk r c l) = decide (∀ x ∈ l, CellOk x.f0 x.f1) from decide_eq_decide.2 ⟨fun h => h.2.2.2, fun h => ⟨⟨h1, h2⟩, ⟨h3, h4⟩, h6, h⟩⟩]
      unfold impl_validCells.f
      exact ev_bind (ev_neg (by omega) (validCells_loop l hm l [] rfl)) (ev_const rfl)
     ·exact ev_neg h6 (no (fun h => h6 h.2.2.1))
    ·exact ev_neg h4 (no (fun h => h4 h.2.1.2))
   ·exact ev_neg h3 (no (fun h => h3 h.2.1.1))
  ·exact ev_neg h2 (no (fun h => h2 h.1.2))
 ·exact ev_neg h1 (no (fun h => h1 h.1.1))
end Go.Proofs.Ytcilbmbgdcepgaa.A
