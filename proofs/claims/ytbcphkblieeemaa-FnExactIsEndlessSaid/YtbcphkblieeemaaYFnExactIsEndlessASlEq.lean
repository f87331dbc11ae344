/- What slices.Equal answers. -/
import Derived.Test.YtbcphkblieeemaaYFnExactIsEndlessACt
import Derived.Test.YtbcphkblieeemaaYFnExactIsEndlessPx60
namespace Go.Proofs.Ytbcphkblieeemaa.A
open Go.RowKit Go.Proofs.YtbcphkblieeemaaW.PrintWords Go.Proofs.YtbcphkblieeemaaW.PrintLast Go.Proofs.YtbcphkblieeemaaW.PrintMore Go.Proofs.Ytbcphkblieeemaa.P Go.Proofs.Ytbcphkblieeemaa.T
set_option linter.unusedVariables false
set_option linter.unusedSimpArgs false
theorem slsame_loop : ∀ (us us' pre pre' : List Int), us.length = us'.length → pre.length = pre'.length → (pre ++ us).length ≤ maxLen →
    Ev (fun k => slices_Equal_int_int.l0 k (pre ++ us) (pre' ++ us') ((pre ++ us).length : Int) (pre.length : Int)) (decide (us = us')) := by
  intro us
  induction us with
  | nil =>
    intro us' pre pre' h1 h2 h3
    cases us' with
    | nil => exact Ev.step (fun k => slices_Equal_int_int.l0.eq_2 ..) (ev_neg (not_lt_end _) (ev_const (by simp)))
    | cons _ _ => simp at h1
  | cons a us ih =>
    intro us' pre pre' h1 h2 h3
    cases us' with
    | nil => simp at h1
    | cons b us' =>
      have hl : (pre.length : Int) < ((pre' ++ b :: us').length : Int) := by rw [h2]; exact lt_mid _ _ _
      refine Ev.step (fun k => slices_Equal_int_int.l0.eq_2 ..) (ev_pos (lt_mid _ _ _) (ev_pos (by omega) (ev_pos (lt_mid _ _ _) (ev_pos hl ?_))))
      have ea : rd (pre ++ a :: us) (pre.length : Int) = a := by unfold rd; exact getD_mid _ _ _ _
      have eb : rd (pre' ++ b :: us') (pre.length : Int) = b := by rw [h2]; unfold rd; exact getD_mid _ _ _ _
      rw [ea, eb, next_mid _ _ _ h3]
      by_cases h : a = b
      · subst h
        have := ih us' (pre ++ [a]) (pre' ++ [a]) (by simpa using h1) (by simp [h2]) (by rw [← assoc_mid]; exact h3)
        rw [← assoc_mid, ← assoc_mid] at this
        rw [show decide (a :: us = a :: us') = decide (us = us') by simp]
        exact ev_pos rfl this
      · rw [show decide (a :: us = b :: us') = false from decide_eq_false (fun e => h (List.cons.inj e).1)]
        exact ev_neg h (ev_const rfl)
theorem slEqual (us us' : List Int) (h : us.length ≤ maxLen) : Ev (fun k => slices_Equal_int_int.f k us us') (decide (us = us')) := by
  unfold slices_Equal_int_int.f
  by_cases hl : us.length = us'.length
  · exact ev_pos (by omega) (slsame_loop us us' [] [] hl rfl h)
  · rw [show decide (us = us') = false from decide_eq_false (fun e => hl (by rw [e]))]
    exact ev_neg (by omega) (ev_const rfl)
end Go.Proofs.Ytbcphkblieeemaa.A
