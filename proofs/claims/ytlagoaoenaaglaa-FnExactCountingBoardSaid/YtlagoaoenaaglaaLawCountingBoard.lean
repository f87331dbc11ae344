/- CountingBoard: the program returns what the reference returns, for all int64 arguments. -/
import Derived.Test.YtlagoaoenaaglaaRowFnExactCountingBoard
import Derived.Test.YtlagoaoenaaglaaABo
namespace Go.Proofs.Ytlagoaoenaaglaa.A
open Go.RowKit Go.Proofs.YtlagoaoenaaglaaW.PrintWords Go.Proofs.YtlagoaoenaaglaaW.PrintLast Go.Proofs.YtlagoaoenaaglaaW.PrintMore Go.Proofs.Ytlagoaoenaaglaa.P Go.Proofs.Ytlagoaoenaaglaa.T Go.Proofs.Ytlagoaoenaaglaa.Op
set_option linter.unusedVariables false

def flips (n : Nat) : List S59 := List.replicate n ⟨3, 0⟩
theorem flips_succ (n : Nat) : flips n ++ [⟨3, 0⟩] = flips (n + 1) := by
  simp [flips, List.replicate_succ']
def countB (n : Int) : Int × Int × List S59 × Bool := if 1 ≤ n ∧ n ≤ 4 then (n, 2 * n + 1, flips (n * (2 * n + 1)).toNat, true) else (0, 0, [], false)

theorem four {n : Int} (h : 1 ≤ n ∧ n ≤ 4) : 3 ≤ n * (2 * n + 1) ∧ n * (2 * n + 1) ≤ 36 := by
  have : n = 1 ∨ n = 2 ∨ n = 3 ∨ n = 4 := by omega
  rcases this with rfl | rfl | rfl | rfl <;> omega

theorem cbc_loop (a b : Int) (n : Int) (hn : a * b = n) (hm : n ≤ 36) : ∀ (d m : Nat), (m : Int) + d = n → Ev (fun k => spec_cbCounting.l0 k a b (flips m)) (a, b, flips n.toNat) := by
  have hl : ∀ m, (flips m).length = m := fun m => by simp [flips]
  intro d
  induction d with
  | zero =>
    intro m h
    refine Ev.step (fun k => spec_cbCounting.l0.eq_2 ..) (ev_neg ?_ (ev_const ?_))
    · rw [hn, hl, wrap_id (by omega) (by omega)]; omega
    · rw [show n.toNat = m by omega]
  | succ d ih =>
    intro m h
    refine Ev.step (fun k => spec_cbCounting.l0.eq_2 ..) (ev_pos ?_ (ev_pos ?_ ?_))
    · rw [hn, hl, wrap_id (by omega) (by omega)]; omega
    · rw [hl]; omega
    · rw [flips_succ]
      exact ih (m + 1) (by omega)

theorem specCountingBoard (n : Int) : Ev (fun k => spec_CountingBoard.f k n) (countB n) := by
  unfold spec_CountingBoard.f countB
  simp only [in_f, Option.bind_some, decide_eq_true_eq]
  by_cases h : 1 ≤ n ∧ n ≤ 4
  · have h4 := four h
    rw [if_pos h]
    refine ev_pos h ?_
    unfold spec_cbCounting.f
    rw [wrap_id (x := 2 * n) (by omega) (by omega), wrap_id (x := 2 * n + 1) (by omega) (by omega)]
    have := cbc_loop n (2 * n + 1) _ rfl h4.2 (n * (2 * n + 1)).toNat 0 (by omega)
    exact ev_bind this (ev_const rfl)
  · rw [if_neg h]
    exact ev_neg h (ev_const rfl)

theorem cbi_loop (n : Int) (h : 1 ≤ n ∧ n ≤ 4) : ∀ (d m : Nat), (m : Int) + d = n * (2 * n + 1) → Ev (fun k => impl_CountingBoard.l0 k n m n (2 * n + 1) (flips m)) (n, 2 * n + 1, flips (n * (2 * n + 1)).toNat, true) := by
  have hl : ∀ m, (flips m).length = m := fun m => by simp [flips]
  have h4 := four h
  have hw : wrap64 (n * wrap64 (wrap64 (2 * n) + 1)) = n * (2 * n + 1) := by
    rw [wrap_id (x := 2 * n) (by omega) (by omega), wrap_id (x := 2 * n + 1) (by omega) (by omega), wrap_id (by omega) (by omega)]
  intro d
  induction d with
  | zero =>
    intro m h1
    refine Ev.step (fun k => impl_CountingBoard.l0.eq_2 ..) (ev_neg ?_ (ev_const ?_))
    · rw [hw]; omega
    · rw [show (n * (2 * n + 1)).toNat = m by omega]
  | succ d ih =>
    intro m h1
    refine Ev.step (fun k => impl_CountingBoard.l0.eq_2 ..) (ev_pos ?_ (ev_pos ?_ ?_))
    · rw [hw]; omega
    · rw [hl]; omega
    · rw [flips_succ, wrap_id (x := (m : Int) + 1) (by omega) (by omega)]
      exact ih (m + 1) (by omega)

theorem implCountingBoard (n : Int) : Ev (fun k => impl_CountingBoard.f k n) (countB n) := by
  unfold impl_CountingBoard.f countB
  by_cases h : 1 ≤ n ∧ n ≤ 4
  · rw [if_pos h, show decide (n > 4) = false by simp; omega]
    refine ev_neg (by omega) (Ev.step (fun k => impl_CountingBoard.j0.eq_2 ..) (ev_neg (by simp) ?_))
    rw [wrap_id (x := 2 * n) (by omega) (by omega), wrap_id (x := 2 * n + 1) (by omega) (by omega)]
    exact cbi_loop n h (n * (2 * n + 1)).toNat 0 (by have := four h; omega)
  · rw [if_neg h]
    by_cases h1 : n < 1
    · exact ev_pos h1 (Ev.step (fun k => impl_CountingBoard.j0.eq_2 ..) (ev_pos rfl (ev_const rfl)))
    · refine ev_neg h1 (Ev.step (fun k => impl_CountingBoard.j0.eq_2 ..) (ev_pos (by simp; omega) (ev_const rfl)))

theorem lawCountingBoard : fnExactCountingBoard.Pure := by
  intro n hn
  refine Ev.rounds ?_
  unfold laws_FnExactCountingBoard.f
  have hl : (countB n).2.2.1.length ≤ 36 := by
    unfold countB
    split
    · rename_i h; have := four h; simp [flips]; omega
    · simp
  have hm : (countB n).2.2.1.length ≤ maxLen := by simp only [maxLen]; omega
  have bi := implCountingBoard n
  refine ev_bind (specCountingBoard n) (ev_bind bi (ev_bind (eqBo _ _ _ hm) (ev_pos rfl ?_)))
  refine Ev.step (fun k => laws_FnExactCountingBoard.j0.eq_2 ..) (ev_neg (by simp) ?_)
  refine ev_bind (markBo _ _ _ 1 hm (by omega) (by omega)) (ev_bind (heldBo _ _ _ 1 hm (by omega) (by omega)) (ev_neg (by simp; omega) (ev_pos rfl (ev_bind bi (ev_bind (eqBo _ _ _ hm) (ev_pos rfl ?_))))))
  refine Ev.step (fun k => laws_FnExactCountingBoard.j1.eq_2 ..) (ev_neg (by simp) ?_)
  exact ev_bind (heldBo _ _ _ 1 hm (by omega) (by omega)) (ev_neg (by simp; omega) (ev_pos rfl (ev_const rfl)))
end Go.Proofs.Ytlagoaoenaaglaa.A
namespace Go.Proofs.Ytlagoaoenaaglaa
/-- The row. -/
theorem fnExactCountingBoard_holds : Rows.FnExactCountingBoardSaid := fnExactCountingBoard.over A.lawCountingBoard
end Go.Proofs.Ytlagoaoenaaglaa
