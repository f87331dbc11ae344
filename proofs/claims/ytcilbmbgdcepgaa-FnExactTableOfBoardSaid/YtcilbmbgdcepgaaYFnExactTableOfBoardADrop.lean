/- A marble alone on a board, in both programs. -/
import Derived.Test.YtcilbmbgdcepgaaYFnExactTableOfBoardPx88
import Derived.Test.YtcilbmbgdcepgaaYFnExactTableOfBoardAFallE
import Derived.Test.YtcilbmbgdcepgaaYFnExactTableOfBoardAValid
namespace Go.Proofs.Ytcilbmbgdcepgaa.A
open Go.RowKit YtcilbmbgdcepgaaW.PrintWords YtcilbmbgdcepgaaW.PrintLast YtcilbmbgdcepgaaW.PrintMore P T 
set_option linter.unusedVariables false
set_option linter.unusedSimpArgs false

theorem fallOfE (R cn : Nat) (cs : List S71) (col : Int) (hb : BoOk R cn cs) (h0 : 0 ≤ col) (h1 : col < (cn : Int)) :
  Ev (fun k => impl_FallOf.f k (R : Int) (cn : Int) cs col) ((fallL R cn cs col).1.1, (fallL R cn cs col).1.2.1, (fallL R cn cs col).1.2.2, true) :=
 ⟨0, fun k _ => by
  show impl_FallOf.f k (R : Int) (cn : Int) cs col = _
  unfold impl_FallOf.f
  rw [if_pos ⟨hb, h0, h1⟩, Int.toNat_natCast, Int.toNat_natCast]⟩
end Go.Proofs.Ytcilbmbgdcepgaa.A
