/- The values of all entries, in the program. -/
import Derived.Test.YtcilbmbgdcepgaaYFnExactTableOfBoardPx93
import Derived.Test.YtcilbmbgdcepgaaYFnExactTableOfBoardAVal
import Derived.Test.YtcilbmbgdcepgaaYFnExactTableOfBoardATb
namespace Go.Proofs.Ytcilbmbgdcepgaa.A
open Go.RowKit YtcilbmbgdcepgaaW.PrintWords YtcilbmbgdcepgaaW.PrintLast YtcilbmbgdcepgaaW.PrintMore P T
set_option linter.unusedVariables false
set_option linter.unusedSimpArgs false

theorem entryVals_loop (R cn : Nat) (l : List S71) (split : Int) (hb : BoOk R cn l) : ∀ (d i : Nat) (acc : List Int), i + d = cn → acc.length = i →
  Ev (fun k => impl_entryValues.l0 k split acc (i : Int) (R : Int) (cn : Int) l) (acc ++ (List.range' i d).map fun (j : Nat) => valE (R : Int) (cn : Int) l split (j : Int)) := by
 have hc := hb.2.1.2
 intro d
 induction d with
 | zero => exact fun i acc hi ha => Ev.step (fun k => impl_entryValues.l0.eq_2 ..) (ev_neg (by omega) (ev_const (by simp)))
 | succ d ih =>
  intro i acc hi ha
  refine Ev.step (fun k => impl_entryValues.l0.eq_2 ..) (ev_pos (by omega) (ev_bind (valueE R cn l split (i : Int) hb (by omega) (by omega)) (ev_pos (by omega) ?_)))
  rw [wrap_id (x := (i : Int) + 1) (by omega) (by omega)]
  have h := ih (i + 1) (acc ++ [valE (R : Int) (cn : Int) l split (i : Int)]) (by omega) (by simp [ha])
  rw [List.append_assoc] at h
  exact h
theorem entryVals (r c : Int) (l : List S71) (split : Int) (hb : BoOk r c l) : Ev (fun k => impl_entryValues.f k r c l split) (valsE r c l split) := by
 obtain ⟨R, cn, rfl, rfl⟩ := nat_of hb
 unfold impl_entryValues.f valsE
 have h := entryVals_loop R cn l split hb cn 0 [] (by omega) rfl
 rw [List.nil_append] at h
 rw [Int.toNat_natCast]
 exact h
end Go.Proofs.Ytcilbmbgdcepgaa.A
