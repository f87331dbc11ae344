/- AreInstructions: the program returns what the reference returns, for all lists of instructions and all numbers of counters. -/
import Derived.Test.YtlagoaoenaaglaaRowFnExactAreInstructions
import Derived.Test.YtlagoaoenaaglaaAIns
namespace Go.Proofs.Ytlagoaoenaaglaa.A
open Go.RowKit Go.Proofs.YtlagoaoenaaglaaW.PrintWords Go.Proofs.YtlagoaoenaaglaaW.PrintLast Go.Proofs.YtlagoaoenaaglaaW.PrintMore Go.Proofs.Ytlagoaoenaaglaa.P Go.Proofs.Ytlagoaoenaaglaa.T Go.Proofs.Ytlagoaoenaaglaa.Op

theorem lawAreIns : fnExactAreInstructions.Pure := by
  intro l c hl hc
  refine Ev.rounds ?_
  unfold laws_FnExactAreInstructions.f
  refine ev_bindc (szIns l 1048576 (by omega) hl.1) ?_
  by_cases h : (1048576 : Int) - (l.length : Int) < 0
  · rw [if_pos h]; exact ev_const rfl
  · have hlen : l.length ≤ 1048576 := by omega
    have hml : (l.map cpI).length ≤ maxLen := by simp [maxLen]; omega
    rw [if_neg h]
    refine ev_neg h (ev_bind (toIns l hlen) (ev_bind (specAre _ c hml) (ev_bind (toIns l hlen) (ev_bind (implAre _ c hml) ?_))))
    refine ev_neg (by simp) (ev_bind (toIns l hlen) (ev_bind (eqIns _ hml) (ev_const rfl)))
end Go.Proofs.Ytlagoaoenaaglaa.A
namespace Go.Proofs.Ytlagoaoenaaglaa
/-- The row. -/
theorem fnExactAreInstructions_holds : Rows.FnExactAreInstructionsSaid := fnExactAreInstructions.over A.lawAreIns
end Go.Proofs.Ytlagoaoenaaglaa
