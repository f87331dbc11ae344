/- What the program's test for a found zero and its comparison of values answer. -/
import Derived.Test.YtbcphkblieeemaaYFnExactIsEndlessAGrow0
import Derived.Test.YtbcphkblieeemaaYFnExactIsEndlessPx55
import Derived.Test.YtbcphkblieeemaaYFnExactIsEndlessPx56
namespace Go.Proofs.Ytbcphkblieeemaa.A
open Go.RowKit Go.Proofs.YtbcphkblieeemaaW.PrintWords Go.Proofs.YtbcphkblieeemaaW.PrintLast Go.Proofs.YtbcphkblieeemaaW.PrintMore Go.Proofs.Ytbcphkblieeemaa.P Go.Proofs.Ytbcphkblieeemaa.T
set_option linter.unusedVariables false
set_option linter.unusedSimpArgs false
theorem implFound {l : List S55} {line : Int} {vs : List Int} (h : StOk l line vs) : impl_foundZero.f l line vs = some (zeroL l line vs) := by
  have hn := h.2.1
  unfold impl_foundZero.f zeroL
  by_cases h1 : line < (l.length : Int)
  · have hx := okAt h h1
    unfold OkI at hx
    rw [if_pos h1, if_pos hn.1]
    by_cases h2 : (rd_T55 l line).f0 = 1
    · rw [if_pos h2, if_pos hx.2.2.1, if_pos hx.2.2.2.1]
      congr 1
      rw [show (rd vs (rd_T55 l line).f1 == 0) = decide (rd vs (rd_T55 l line).f1 = 0) by by_cases h3 : rd vs (rd_T55 l line).f1 = 0 <;> simp [h3], decide_eq_decide]
      exact ⟨fun h3 => ⟨fun e => e.elim (by omega) (by omega), h2, h3⟩, fun h3 => h3.2.2⟩
    · rw [if_neg h2, decide_eq_false (fun h3 => h2 h3.2.1)]
  · rw [if_neg h1, decide_eq_false (fun h3 => h3.1 (.inl (by omega)))]
theorem least_loop : ∀ (us us' pre pre' : List Int), us.length = us'.length → pre.length = pre'.length → (pre ++ us).length ≤ maxLen →
    Ev (fun k => impl_atLeast.l0 k (pre ++ us) (pre' ++ us') ((pre ++ us).length : Int) (pre.length : Int)) (geL us us') := by
  intro us
  induction us with
  | nil =>
    intro us' pre pre' h1 h2 h3
    cases us' with
    | nil => exact Ev.step (fun k => impl_atLeast.l0.eq_2 ..) (ev_neg (not_lt_end _) (ev_const (by simp [geL])))
    | cons _ _ => simp at h1
  | cons x us ih =>
    intro us' pre pre' h1 h2 h3
    cases us' with
    | nil => simp at h1
    | cons y us' =>
      have hl : (pre.length : Int) < ((pre' ++ y :: us').length : Int) := by rw [h2]; exact lt_mid _ _ _
      refine Ev.step (fun k => impl_atLeast.l0.eq_2 ..) (ev_pos (lt_mid _ _ _) (ev_pos (by omega) (ev_pos (lt_mid _ _ _) (ev_pos hl ?_))))
      have ea : rd (pre ++ x :: us) (pre.length : Int) = x := by unfold rd; exact getD_mid _ _ _ _
      have eb : rd (pre' ++ y :: us') (pre.length : Int) = y := by rw [h2]; unfold rd; exact getD_mid _ _ _ _
      rw [ea, eb, next_mid _ _ _ h3]
      by_cases h : x < y
      · rw [show geL (x :: us) (y :: us') = false by simp [geL]; omega]
        exact ev_pos h (ev_const rfl)
      · have := ih us' (pre ++ [x]) (pre' ++ [y]) (by simpa using h1) (by simp [h2]) (by rw [← assoc_mid]; exact h3)
        rw [← assoc_mid, ← assoc_mid] at this
        rw [show geL (x :: us) (y :: us') = geL us us' by simp [geL]; omega]
        exact ev_neg h this
theorem atLeast (us us' : List Int) (h1 : us.length = us'.length) (h : us.length ≤ maxLen) : Ev (fun k => impl_atLeast.f k us us') (geL us us') := by
  unfold impl_atLeast.f
  exact least_loop us us' [] [] h1 rfl h
end Go.Proofs.Ytbcphkblieeemaa.A
