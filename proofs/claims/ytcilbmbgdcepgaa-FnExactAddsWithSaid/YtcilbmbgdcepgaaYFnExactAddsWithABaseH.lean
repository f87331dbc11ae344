/- What the printed helpers on numbers and on lists of numbers come to. -/
import Derived.Test.YtcilbmbgdcepgaaZFnExactAddsWith0
import Derived.Test.YtcilbmbgdcepgaaYFnExactAddsWithABase
namespace Go.Proofs.Ytcilbmbgdcepgaa.A
open Go.RowKit YtcilbmbgdcepgaaW.PrintWords YtcilbmbgdcepgaaW.PrintLast YtcilbmbgdcepgaaW.PrintMore P T
set_option linter.unusedVariables false
set_option linter.unusedSimpArgs false
theorem l1Has_loop (l : List Int) (n : Int) (hm : l.length ≤ maxLen) : ∀ (suf pre : List Int), l = pre ++ suf →
  Ev (fun k => spec_l1Has.l0 k n l (l.length : Int) (pre.length : Int)) (decide (n ∈ suf)) := by
 intro suf
 induction suf with
 | nil =>
  intro pre hl
  subst hl
  refine Ev.step (fun k => spec_l1Has.l0.eq_2 ..) ?_
  exact ev_neg (not_lt_end _) (ev_const (by simp))
 | cons y suf ih =>
  intro pre hl
  subst hl
  refine Ev.step (fun k => spec_l1Has.l0.eq_2 ..) ?_
  refine ev_pos (lt_mid _ _ _) (ev_pos (by omega) (ev_pos (lt_mid _ _ _) ?_))
  simp only [rd_mid]
  by_cases h : y = n
  ·refine ev_pos h (ev_const ?_)
   rw [decide_eq_true (by rw [h]; exact List.mem_cons_self)]
  ·refine ev_neg h ?_
   rw [next_mid _ _ _ hm]
   have := ih (pre ++ [y]) (assoc_mid _ _ _)
   rw [show decide (n ∈ y :: suf) = decide (n ∈ suf) by rw [decide_eq_decide, List.mem_cons]; exact ⟨fun hh => hh.resolve_left (fun e => h e.symm), Or.inr⟩]
   exact this
theorem l1Has (l : List Int) (n : Int) (hm : l.length ≤ maxLen) : Ev (fun k => spec_l1Has.f k l n) (decide (n ∈ l)) := by
 unfold spec_l1Has.f
 exact l1Has_loop l n hm l [] rfl
end Go.Proofs.Ytcilbmbgdcepgaa.A
