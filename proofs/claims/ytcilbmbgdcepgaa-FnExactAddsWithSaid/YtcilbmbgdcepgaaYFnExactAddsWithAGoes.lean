/- Where the program lets a marble go. -/
import Derived.Test.YtcilbmbgdcepgaaYFnExactAddsWithPx82
import Derived.Test.YtcilbmbgdcepgaaYFnExactAddsWithAFall
namespace Go.Proofs.Ytcilbmbgdcepgaa.A
open Go.RowKit YtcilbmbgdcepgaaW.PrintWords YtcilbmbgdcepgaaW.PrintLast YtcilbmbgdcepgaaW.PrintMore P T 
set_option linter.unusedVariables false
set_option linter.unusedSimpArgs false

theorem goesTo (x : S71) (side : Int) (h : CellOk x.f0 x.f1) (hs : -1 ≤ side ∧ side ≤ 1) : Ev (fun k => impl_GoesTo.f k x.f0 x.f1 side) (if x.f0 = 5 then (0, false) else (goesC x side, true)) := by
 have h2 : x.f1 = 0 ∨ x.f1 = 1 := by
  rcases h.2 with h | h
  ·exact .inl h
  ·exact .inr h.1
 have w1 : wrap64 (2 * x.f1) = 2 * x.f1 := wrap_id (by omega) (by omega)
 have w2 : wrap64 (2 * x.f1 - 1) = 2 * x.f1 - 1 := wrap_id (by clear w1; omega) (by clear w1; omega)
 have w3 : wrap64 (-side) = -side := wrap_id (by clear w1 w2; omega) (by clear w1 w2; omega)
 have s1 : ¬ side < -1 := by clear w1 w2 w3; omega
 have s2 : ¬ side > 1 := by clear w1 w2 w3; omega
 clear h2
 unfold impl_GoesTo.f goesC
 refine ev_bindc (isCell x.f0 x.f1) (ev_pos (decide_eq_true h) (ev_neg s1 (ev_neg s2 ?_)))
 by_cases h5 : x.f0 = 5
 ·rw [if_pos h5]
  exact Ev.step (fun k => impl_GoesTo.j0.eq_2 ..) (ev_pos (beq_iff_eq.2 h5) (ev_const rfl))
 rw [if_neg h5]
 refine Ev.step (fun k => impl_GoesTo.j0.eq_2 ..) (ev_neg (by rw [beq_iff_eq]; exact h5) ?_)
 by_cases h1 : x.f0 = 1
 ·rw [if_pos h1]; exact ev_pos h1 (ev_const rfl)
 rw [if_neg h1]
 refine ev_neg h1 ?_
 by_cases h2 : x.f0 = 2
 ·rw [if_pos h2]; exact ev_pos h2 (ev_const rfl)
 rw [if_neg h2]
 refine ev_neg h2 ?_
 by_cases h3 : x.f0 = 3
 ·rw [if_pos (show x.f0 = 3 ∨ x.f0 = 6 from .inl h3)]
  refine ev_pos h3 (Ev.step (fun k => impl_GoesTo.j1.eq_2 ..) (ev_pos (beq_iff_eq.2 h3) (ev_const ?_)))
  rw [w1, w2]
 refine ev_neg h3 (Ev.step (fun k => impl_GoesTo.j1.eq_2 ..) ?_)
 by_cases h6 : x.f0 = 6
 ·rw [if_pos (show x.f0 = 3 ∨ x.f0 = 6 from .inr h6)]
  refine ev_pos (beq_iff_eq.2 h6) (ev_const ?_)
  rw [w1, w2]
 rw [if_neg (show ¬ (x.f0 = 3 ∨ x.f0 = 6) from fun h => h.elim h3 h6)]
 refine ev_neg (by rw [beq_iff_eq]; exact h6) ?_
 by_cases h4 : x.f0 = 4
 ·rw [if_pos h4, if_pos h4]
  exact ev_const (by rw [w3])
 ·rw [if_neg h4, if_neg h4]
  exact ev_const rfl
end Go.Proofs.Ytcilbmbgdcepgaa.A
