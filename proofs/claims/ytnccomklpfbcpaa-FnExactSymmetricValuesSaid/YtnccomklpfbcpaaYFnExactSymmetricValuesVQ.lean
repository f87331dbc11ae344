/- What the sorting board of a table is, said once. -/
import Derived.Test.YtnccomklpfbcpaaYFnExactSymmetricValuesASrt
namespace Go.Proofs.Ytnccomklpfbcpaa.A
open Go.RowKit Go.Proofs.YtnccomklpfbcpaaW.PrintWords Go.Proofs.YtnccomklpfbcpaaW.PrintLast Go.Proofs.YtnccomklpfbcpaaW.PrintMore Go.Proofs.Ytnccomklpfbcpaa.P Go.Proofs.Ytnccomklpfbcpaa.T
def SbOk (l : List Int) : Prop := (1 ≤ l.length ∧ l.length ≤ 8) ∧ (∀ y ∈ l, y = 0 ∨ y = 1) ∧ within 9 0 l = true
instance (l : List Int) : Decidable (SbOk l) := by unfold SbOk; infer_instance
def sbQ (l : List Int) : Nat × List Int × List Int × List S72 := roundsL 9 0 l (iota 0 l.length) []
end Go.Proofs.Ytnccomklpfbcpaa.A
