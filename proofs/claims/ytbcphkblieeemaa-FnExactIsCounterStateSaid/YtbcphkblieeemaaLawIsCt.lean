/- IsCounterState: the program returns what the reference returns, for all lists of instructions and all states. -/
import Derived.Test.YtbcphkblieeemaaRowFnExactIsCounterState
import Derived.Test.YtbcphkblieeemaaACt
namespace Go.Proofs.Ytbcphkblieeemaa.A
open Go.RowKit Go.Proofs.YtbcphkblieeemaaW.PrintWords Go.Proofs.YtbcphkblieeemaaW.PrintLast Go.Proofs.YtbcphkblieeemaaW.PrintMore Go.Proofs.Ytbcphkblieeemaa.P Go.Proofs.Ytbcphkblieeemaa.T Go.Proofs.Ytbcphkblieeemaa.Op

theorem lawIsCt : fnExactIsCounterState.Pure := by
  intro l line vs hl hline hvs
  refine Ev.rounds ?_
  unfold laws_FnExactIsCounterState.f
  refine ev_bindc (szIns l 1048576 (by omega) hl.1) ?_
  by_cases h : (1048576 : Int) - (l.length : Int) < 0
  · rw [if_pos h]; exact ev_const rfl
  have hlen : l.length ≤ 1048576 := by omega
  have hml : (l.map cpI).length ≤ maxLen := by simp [maxLen]; omega
  rw [if_neg h]
  refine ev_neg h (ev_bindc (szCt line vs _ (by omega) hvs.1) ?_)
  by_cases h2 : (1048576 : Int) - (l.length : Int) - (vs.length : Int) < 0
  · rw [if_pos h2]; exact ev_const rfl
  have hv : vs.length ≤ 1048576 := by omega
  rw [if_neg h2]
  refine ev_neg h2 (ev_bind (toIns l hlen) (ev_bind (toCt _ _ hv) (ev_bind (specIsCt _ _ _ hml hvs.1) (ev_bind (toIns l hlen) (ev_bind (toCt _ _ hv) (ev_bind (implIsCt _ _ _ hml hvs.1) ?_))))))
  refine ev_neg (by simp) (ev_bind (toIns l hlen) (ev_bind (eqIns _ hml) (ev_pos rfl (ev_bind (toCt _ _ hv) (ev_bind (eqCt _ _ hvs.1) (ev_const rfl))))))
end Go.Proofs.Ytbcphkblieeemaa.A
namespace Go.Proofs.Ytbcphkblieeemaa
/-- The row. -/
theorem fnExactIsCounterState_holds : Rows.FnExactIsCounterStateSaid := fnExactIsCounterState.over A.lawIsCt
end Go.Proofs.Ytbcphkblieeemaa
