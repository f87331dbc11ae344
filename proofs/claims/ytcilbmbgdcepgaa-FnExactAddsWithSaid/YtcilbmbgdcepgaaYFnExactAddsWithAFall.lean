/- A marble alone on a board, as the reference lets it fall: what the printed functions come to. -/
import Derived.Test.YtcilbmbgdcepgaaYFnExactAddsWithPx72
import Derived.Test.YtcilbmbgdcepgaaYFnExactAddsWithABase
import Derived.Test.YtcilbmbgdcepgaaYFnExactAddsWithVGg
namespace Go.Proofs.Ytcilbmbgdcepgaa.A
open Go.RowKit YtcilbmbgdcepgaaW.PrintWords YtcilbmbgdcepgaaW.PrintLast YtcilbmbgdcepgaaW.PrintMore P T
set_option linter.unusedVariables false
set_option linter.unusedSimpArgs false

theorem goesC_lo {x : S71} {side : Int} (h : CellOk x.f0 x.f1) (hs : -1 ≤ side ∧ side ≤ 1) : -1 ≤ goesC x side ∧ goesC x side ≤ 1 := by
 have h2 : x.f1 = 0 ∨ x.f1 = 1 := by
  rcases h.2 with h | h
  ·exact .inl h
  ·exact .inr h.1
 unfold goesC
 by_cases h1 : x.f0 = 1
 ·rw [if_pos h1]; omega
 rw [if_neg h1]
 by_cases h2' : x.f0 = 2
 ·rw [if_pos h2']; omega
 rw [if_neg h2']
 by_cases h3 : x.f0 = 3 ∨ x.f0 = 6
 ·rw [if_pos h3]; omega
 rw [if_neg h3]
 by_cases h4 : x.f0 = 4
 ·rw [if_pos h4]; omega
 ·rw [if_neg h4]; omega
theorem groupsL_len (R C : Nat) (cs : List S71) : ∀ (d i : Nat) (g : Int) (out : List Int), 0 ≤ g → i + d ≤ R * C → out.length = R * C → (groupsL R C cs d i g out).length = R * C := by
 intro d
 induction d with
 | zero => intro i g out _ _ h; exact h
 | succ d ih =>
  intro i g out hg hi h
  rw [groupsL]
  by_cases hc : gearB (cs.getD i ⟨0, 0⟩) = true ∧ out.getD i 0 < 0
  ·rw [if_pos hc]
   refine ih (i + 1) (g + 1) _ (by omega) (by omega) ?_
   have h1 := negs_set out i g hg (by omega) hc.2
   have h2 := negs_le out
   exact bfsL_len R C cs g hg (R * C) 0 (out.set i g) [i] (by rw [List.length_set]; exact h) (fun x hx => by simp at hx; omega) (by rw [List.length_singleton]; omega)
  ·rw [if_neg hc]
   exact ih (i + 1) g out hg (by omega) h
theorem grpL_len (R C : Nat) (cs : List S71) : (grpL R C cs).length = R * C := groupsL_len R C cs (R * C) 0 0 _ (Int.le_refl _) (by omega) (by rw [List.length_replicate])
theorem bo_nat {R cn : Nat} {cs : List S71} (h : BoOk R cn cs) : cs.length = R * cn := by have h_ := h.2.2.1; rw [← Int.natCast_mul] at h_; exact Int.ofNat.inj h_
theorem wrap_at {R cn row : Nat} {col : Int} (hR : row < R) (hR10 : R ≤ 10) (hc9 : cn ≤ 9) (h0 : 0 ≤ col) (h1 : col < (cn : Int)) : wrap64 (wrap64 ((row : Int) * (cn : Int)) + col) = ((row * cn + col.toNat : Nat) : Int) ∧ row * cn + col.toNat < R * cn := by
 have h2 : row * cn ≤ 10 * 9 := Nat.mul_le_mul (by omega) hc9
 have h3 : ((row : Int) * (cn : Int)) = ((row * cn : Nat) : Int) := (Int.natCast_mul _ _).symm
 have h4 : (row + 1) * cn ≤ R * cn := Nat.mul_le_mul_right _ hR
 rw [Nat.succ_mul] at h4
 have a1 : wrap64 ((row * cn : Nat) : Int) = ((row * cn : Nat) : Int) := wrap_id (by omega) (by omega)
 have a2 : wrap64 (((row * cn : Nat) : Int) + col) = ((row * cn : Nat) : Int) + col := wrap_id (by clear a1; omega) (by clear a1; omega)
 rw [h3, a1, a2]
 clear a1 a2
 constructor <;> omega
theorem paGoes (x : S71) (side : Int) (h : CellOk x.f0 x.f1) (hs : -1 ≤ side ∧ side ≤ 1) (h5 : x.f0 ≠ 5) : Ev (fun k => spec_paGoes.f k x.f0 x.f1 side) (goesC x side) := by
 have h2 : x.f1 = 0 ∨ x.f1 = 1 := by
  rcases h.2 with h | h
  ·exact .inl h
  ·exact .inr h.1
 have w1 : wrap64 (2 * x.f1) = 2 * x.f1 := wrap_id (by omega) (by omega)
 have w2 : wrap64 (2 * x.f1 - 1) = 2 * x.f1 - 1 := wrap_id (by clear w1; omega) (by clear w1; omega)
 have w3 : wrap64 (-side) = -side := wrap_id (by clear w1 w2; omega) (by clear w1 w2; omega)
 clear h2
 unfold spec_paGoes.f goesC
 by_cases h1 : x.f0 = 1
 ·rw [if_pos h1]; exact ev_pos h1 (ev_const rfl)
 rw [if_neg h1]
 refine ev_neg h1 ?_
 by_cases h2 : x.f0 = 2
 ·rw [if_pos h2]; exact ev_pos h2 (ev_const rfl)
 rw [if_neg h2]
 refine ev_neg h2 ?_
 by_cases h3 : x.f0 = 3
 ·rw [if_pos (show x.f0 = 3 ∨ x.f0 = 6 from .inl h3)]
  refine ev_pos h3 (Ev.step (fun k => spec_paGoes.j0.eq_2 ..) (ev_pos (by simp [h3]) (ev_const ?_)))
  rw [w1, w2]
 refine ev_neg h3 (Ev.step (fun k => spec_paGoes.j0.eq_2 ..) ?_)
 by_cases h6 : x.f0 = 6
 ·rw [if_pos (show x.f0 = 3 ∨ x.f0 = 6 from .inr h6)]
  refine ev_pos (by simp [h6]) (ev_const ?_)
  rw [w1, w2]
 rw [if_neg (show ¬ (x.f0 = 3 ∨ x.f0 = 6) from fun h => h.elim h3 h6)]
 refine ev_neg (by simp [h6]) ?_
 by_cases h4 : x.f0 = 4
 ·rw [if_pos h4, if_pos h4]
  exact ev_const (by rw [w3])
 ·rw [if_neg h4, if_neg h4]
  exact ev_const rfl
end Go.Proofs.Ytcilbmbgdcepgaa.A
