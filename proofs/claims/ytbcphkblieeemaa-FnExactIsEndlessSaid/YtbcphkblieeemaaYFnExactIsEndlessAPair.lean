/- What the comparisons of two states answer, in plain lists. -/
import Derived.Test.YtbcphkblieeemaaYFnExactIsEndlessAGrow0
import Derived.Test.YtbcphkblieeemaaYFnExactIsEndlessPx49
import Derived.Test.YtbcphkblieeemaaYFnExactIsEndlessPx51
namespace Go.Proofs.Ytbcphkblieeemaa.A
open Go.RowKit Go.Proofs.YtbcphkblieeemaaW.PrintWords Go.Proofs.YtbcphkblieeemaaW.PrintLast Go.Proofs.YtbcphkblieeemaaW.PrintMore Go.Proofs.Ytbcphkblieeemaa.P Go.Proofs.Ytbcphkblieeemaa.T
set_option linter.unusedVariables false
set_option linter.unusedSimpArgs false
theorem same_loop : ∀ (us us' pre pre' : List Int), us.length = us'.length → pre.length = pre'.length → (pre ++ us).length ≤ maxLen →
    Ev (fun k => spec_l1Same.l0 k (pre ++ us) (pre' ++ us') ((pre ++ us).length : Int) (pre.length : Int)) (decide (us = us')) := by
  intro us
  induction us with
  | nil =>
    intro us' pre pre' h1 h2 h3
    cases us' with
    | nil => exact Ev.step (fun k => spec_l1Same.l0.eq_2 ..) (ev_neg (not_lt_end _) (ev_const (by simp)))
    | cons _ _ => simp at h1
  | cons a us ih =>
    intro us' pre pre' h1 h2 h3
    cases us' with
    | nil => simp at h1
    | cons b us' =>
      have hl : (pre.length : Int) < ((pre' ++ b :: us').length : Int) := by rw [h2]; exact lt_mid _ _ _
      refine Ev.step (fun k => spec_l1Same.l0.eq_2 ..) (ev_pos (lt_mid _ _ _) (ev_pos (by omega) (ev_pos (lt_mid _ _ _) (ev_pos hl ?_))))
      have ea : rd (pre ++ a :: us) (pre.length : Int) = a := by unfold rd; exact getD_mid _ _ _ _
      have eb : rd (pre' ++ b :: us') (pre.length : Int) = b := by rw [h2]; unfold rd; exact getD_mid _ _ _ _
      rw [ea, eb, next_mid _ _ _ h3]
      by_cases h : a = b
      · subst h
        have := ih us' (pre ++ [a]) (pre' ++ [a]) (by simpa using h1) (by simp [h2]) (by rw [← assoc_mid]; exact h3)
        rw [← assoc_mid, ← assoc_mid] at this
        rw [show decide (a :: us = a :: us') = decide (us = us') by simp]
        exact ev_pos rfl this
      · rw [show decide (a :: us = b :: us') = false from decide_eq_false (fun e => h (List.cons.inj e).1)]
        exact ev_neg h (ev_const rfl)
theorem l1Same (us us' : List Int) (h : us.length ≤ maxLen) : Ev (fun k => spec_l1Same.f k us us') (decide (us = us')) := by
  unfold spec_l1Same.f
  by_cases hl : us.length = us'.length
  · exact ev_pos (by omega) (same_loop us us' [] [] hl rfl h)
  · rw [show decide (us = us') = false from decide_eq_false (fun e => hl (by rw [e]))]
    exact ev_neg (by omega) (ev_const rfl)
theorem ctEqual (a : Int) (us : List Int) (b : Int) (us' : List Int) (h : us.length ≤ maxLen) : Ev (fun k => spec_ctEqual.f k a us b us') (decide (a = b) && decide (us = us')) := by
  unfold spec_ctEqual.f
  by_cases hab : a = b
  · rw [show decide (a = b) = true from decide_eq_true hab, Bool.true_and]
    exact ev_pos hab (ev_bind (l1Same us us' h) (ev_const rfl))
  · rw [show decide (a = b) = false from decide_eq_false hab]
    exact ev_neg hab (ev_const rfl)
theorem grown_loop (a b : Int) (p q : List Int) : ∀ (us us' pre pre' : List Int), us.length = us'.length → pre.length = pre'.length → (pre ++ us).length ≤ maxLen →
    Ev (fun k => spec_ctGrown.l0 k (pre ++ us) ((pre ++ us).length : Int) (pre.length : Int) a p b (pre' ++ us')) (geL us' us && decide (a = b)) := by
  intro us
  induction us with
  | nil =>
    intro us' pre pre' h1 h2 h3
    cases us' with
    | nil => exact Ev.step (fun k => spec_ctGrown.l0.eq_2 ..) (ev_neg (not_lt_end _) (ev_const (by simp [geL]; rfl)))
    | cons _ _ => simp at h1
  | cons x us ih =>
    intro us' pre pre' h1 h2 h3
    cases us' with
    | nil => simp at h1
    | cons y us' =>
      have hl : (pre.length : Int) < ((pre' ++ y :: us').length : Int) := by rw [h2]; exact lt_mid _ _ _
      refine Ev.step (fun k => spec_ctGrown.l0.eq_2 ..) (ev_pos (lt_mid _ _ _) (ev_pos (by omega) (ev_pos (lt_mid _ _ _) (ev_pos hl ?_))))
      have ea : rd (pre ++ x :: us) (pre.length : Int) = x := by unfold rd; exact getD_mid _ _ _ _
      have eb : rd (pre' ++ y :: us') (pre.length : Int) = y := by rw [h2]; unfold rd; exact getD_mid _ _ _ _
      rw [ea, eb, next_mid _ _ _ h3]
      by_cases h : y < x
      · rw [show geL (y :: us') (x :: us) = false by simp [geL]; omega]
        exact ev_pos h (ev_const rfl)
      · have := ih us' (pre ++ [x]) (pre' ++ [y]) (by simpa using h1) (by simp [h2]) (by rw [← assoc_mid]; exact h3)
        rw [← assoc_mid, ← assoc_mid] at this
        rw [show geL (y :: us') (x :: us) = geL us' us by simp [geL]; omega]
        exact ev_neg h this
theorem ctGrown (a : Int) (us : List Int) (b : Int) (us' : List Int) (h1 : us.length = us'.length) (h : us.length ≤ maxLen) : Ev (fun k => spec_ctGrown.f k a us b us') (geL us' us && decide (a = b)) := by
  unfold spec_ctGrown.f
  exact grown_loop a b us us' us us' [] [] h1 rfl h
end Go.Proofs.Ytbcphkblieeemaa.A
