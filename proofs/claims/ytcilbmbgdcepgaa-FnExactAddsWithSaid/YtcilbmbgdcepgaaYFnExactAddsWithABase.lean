/- What the printed helpers on numbers and on lists of numbers come to. -/
import Derived.Test.YtcilbmbgdcepgaaZFnExactAddsWith0
import Derived.Test.YtcilbmbgdcepgaaZFnExactAddsWith1
namespace Go.Proofs.Ytcilbmbgdcepgaa.A
open Go.RowKit YtcilbmbgdcepgaaW.PrintWords YtcilbmbgdcepgaaW.PrintLast YtcilbmbgdcepgaaW.PrintMore P T
set_option linter.unusedVariables false
set_option linter.unusedSimpArgs false

theorem rd_mid (pre : List Int) (y : Int) (suf : List Int) : rd (pre ++ y :: suf) (pre.length : Int) = y := by simp [rd]
/-- m, m + 1, .. -/
def iota : Int → Nat → List Int
 | _, 0 => []
 | m, n + 1 => m :: iota (m + 1) n
theorem iota_length (n : Nat) : ∀ m, (iota m n).length = n := by
 induction n with
 | zero => intro m; rfl
 | succ n ih => intro m; simp [iota, ih]
theorem in_f (a lo hi : Int) : spec_l1In.f a lo hi = some (decide (lo ≤ a ∧ a ≤ hi)) := by
 unfold spec_l1In.f
 by_cases h : a ≥ lo
 ·rw [if_pos h]; simp [show lo ≤ a from h]
 ·rw [if_neg h]; simp; omega
end Go.Proofs.Ytcilbmbgdcepgaa.A
