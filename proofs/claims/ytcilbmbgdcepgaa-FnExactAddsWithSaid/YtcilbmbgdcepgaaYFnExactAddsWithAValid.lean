/- Whether an entry of a board is valid. -/
import Derived.Test.YtcilbmbgdcepgaaYFnExactAddsWithPx81
import Derived.Test.YtcilbmbgdcepgaaYFnExactAddsWithAFall
namespace Go.Proofs.Ytcilbmbgdcepgaa.A
open Go.RowKit YtcilbmbgdcepgaaW.PrintWords YtcilbmbgdcepgaaW.PrintLast YtcilbmbgdcepgaaW.PrintMore P T 
set_option linter.unusedVariables false
set_option linter.unusedSimpArgs false

theorem validEntry (r c : Int) (l : List S71) (col : Int) (hm : l.length ≤ maxLen) : Ev (fun k => impl_validEntry.f k r c l col) (decide (BoOk r c l ∧ 0 ≤ col ∧ col < c)) := by
 unfold impl_validEntry.f
 refine ev_bind (isBoard r c l hm) ?_
 by_cases h : BoOk r c l
 ·rw [decide_eq_true h]
  refine ev_pos rfl ?_
  by_cases h2 : col ≥ 0
  ·have e : decide (col < c) = decide (BoOk r c l ∧ 0 ≤ col ∧ col < c) := decide_eq_decide.2 ⟨fun h3 => ⟨h, h2, h3⟩, fun h3 => h3.2.2⟩
   exact ev_pos h2 (ev_const (congrArg some e))
  ·have e : decide (BoOk r c l ∧ 0 ≤ col ∧ col < c) = false := decide_eq_false (fun h3 => h2 h3.2.1)
   rw [e]
   exact ev_neg h2 (ev_const rfl)
 ·rw [decide_eq_false h, decide_eq_false (fun h3 : BoOk r c l ∧ 0 ≤ col ∧ col < c => h h3.1)]
  exact ev_neg (by simp) (ev_const rfl)
end Go.Proofs.Ytcilbmbgdcepgaa.A
