/- The contract of impl.sortingBoard out of its walk (VSort2). -/
import Derived.Test.YtnccomklpfbcpaaYFnExactCompileTableVSort2
import Derived.Test.YtnccomklpfbcpaaYFnExactCompileTableVQ
namespace Go.Proofs.Ytnccomklpfbcpaa.P
open Go.RowKit Go.Proofs.YtnccomklpfbcpaaW.PrintWords Go.Proofs.YtnccomklpfbcpaaW.PrintLast Go.Proofs.YtnccomklpfbcpaaW.PrintMore Go.Proofs.Ytnccomklpfbcpaa.Own Go.Proofs.Ytnccomklpfbcpaa.A
set_option linter.unusedVariables false
/-! ### impl_sortingBoard: function 36 -/
def impl_sortingBoard.f (k : Nat) (a0_0 : Int) (l0_1 : List Int) : Option (Int × Int × (List (S72)) × Int × List Int) := if SbOk l0_1 then some (((sbQ l0_1).1 : Int), (l0_1.length : Int), (sbQ l0_1).2.2.2, zerosL l0_1, (sbQ l0_1).2.2.1) else none
theorem impl_sortingBoard.mono : ∀ a0 a1 k, LeO (impl_sortingBoard.f k a0 a1) (impl_sortingBoard.f (k + 1) a0 a1) := fun _ _ _ _ h => h
theorem impl_sortingBoard.calls (k : Nat) (a0_0 : Int) (A0_1 : Option Addr) (c0_1 : Nat) (l0_1 : List Int) (r1 : Int) (r2 : Int) (r3 : List (S72)) (r4 : Int) (r5 : List Int) (w : World) (hr0_1 : Kd.C (Kd.int .i64) w A0_1 l0_1.length l0_1) (hc0_1 : l0_1.length ≤ c0_1) (h : impl_sortingBoard.f k a0_0 l0_1 = some (r1, r2, r3, r4, r5)) :
    Calls Try.prog 36 #[.agg #[.int .i64 a0_0, .slice A0_1 l0_1.length c0_1]] w fun e w' => ∃ v2_ v4_ : Value, e = .returned (.tuple #[.agg #[.int .i64 r1, .int .i64 r2, v2_], .int .i64 r4, v4_]) ∧ Kd.R k72 72 w' w.heap.size (fun _ => True) v2_ r3 ∧ Kd.R (Kd.int .i64) 3 w' w.heap.size (fun _ => True) v4_ r5 ∧ Below w.heap.size w w' := by
  unfold impl_sortingBoard.f at h
  by_cases hk : SbOk l0_1
  case neg => rw [if_neg hk] at h; simp at h
  rw [if_pos hk] at h
  simp only [Option.some.injEq, Prod.mk.injEq] at h
  obtain ⟨rfl, rfl, rfl, rfl, rfl⟩ := h
  refine (sortingBoard_own a0_0 A0_1 c0_1 l0_1 w hr0_1 hc0_1 hk.1.1 hk.1.2 hk.2.1 hk.2.2).mono ?_
  rintro e w' ⟨vc, ve, he, h1, h2, h3⟩
  exact ⟨vc, ve, he, h1, h2, h3⟩
end Go.Proofs.Ytnccomklpfbcpaa.P
