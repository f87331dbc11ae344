/- The value of an entry of a board, in the program. -/
import Derived.Test.YtcilbmbgdcepgaaYFnExactTableOfBoardPx89
import Derived.Test.YtcilbmbgdcepgaaYFnExactTableOfBoardADrop
import Derived.Test.YtcilbmbgdcepgaaYFnExactTableOfBoardAEn
namespace Go.Proofs.Ytcilbmbgdcepgaa.A
open Go.RowKit YtcilbmbgdcepgaaW.PrintWords YtcilbmbgdcepgaaW.PrintLast YtcilbmbgdcepgaaW.PrintMore P T
set_option linter.unusedVariables false
set_option linter.unusedSimpArgs false

theorem valueE (R cn : Nat) (l : List S71) (split idx : Int) (hb : BoOk R cn l) (h0 : 0 ≤ idx) (h1 : idx < (cn : Int)) : Ev (fun k => impl_valueOfEntry.f k (R : Int) (cn : Int) l split idx) (valE (R : Int) (cn : Int) l split idx) := by
 unfold impl_valueOfEntry.f valE
 rw [Int.toNat_natCast, Int.toNat_natCast]
 refine ev_bind (fallOfE R cn l idx hb h0 h1) ?_
 refine ev_const ?_
 by_cases h3 : (fallL R cn l idx).1.1 = 1
 ·by_cases h4 : (fallL R cn l idx).1.2.2 < split
  ·simp [h3, h4, Int.not_le.2 h4]
  ·simp [h3, h4, Int.not_lt.1 h4]
 ·simp [h3]
end Go.Proofs.Ytcilbmbgdcepgaa.A
