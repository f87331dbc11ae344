/- What the reference's flRun comes to. -/
import Derived.Test.YtcilbmbgdcepgaaYFnExactTableOfBoardPx79
import Derived.Test.YtcilbmbgdcepgaaYFnExactTableOfBoardAFall
namespace Go.Proofs.Ytcilbmbgdcepgaa.A
open Go.RowKit YtcilbmbgdcepgaaW.PrintWords YtcilbmbgdcepgaaW.PrintLast YtcilbmbgdcepgaaW.PrintMore P T
theorem flRunE (R cn : Nat) (cs : List S71) (col : Int) (hb : BoOk R cn cs) (h0 : 0 ≤ col) (h1 : col < (cn : Int)) :
  Ev (fun k => spec_flRun.f k (R : Int) (cn : Int) cs col) ((fallL R cn cs col).1.1, (fallL R cn cs col).1.2.1, (fallL R cn cs col).1.2.2, (R : Int), (cn : Int), (fallL R cn cs col).2) :=
 ⟨0, fun k _ => by
  show spec_flRun.f k (R : Int) (cn : Int) cs col = _
  unfold spec_flRun.f
  rw [if_pos ⟨hb, h0, h1⟩, Int.toNat_natCast, Int.toNat_natCast]⟩
end Go.Proofs.Ytcilbmbgdcepgaa.A
