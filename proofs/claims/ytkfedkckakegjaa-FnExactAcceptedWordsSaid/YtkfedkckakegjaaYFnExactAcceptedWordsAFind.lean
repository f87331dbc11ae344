/- The first of some states that is final, with its word. -/
import Derived.Test.YtkfedkckakegjaaYFnExactAcceptedWordsAReach
namespace Go.Proofs.Ytkfedkckakegjaa.A
open Go.RowKit Go.Proofs.YtkfedkckakegjaaW.PrintWords Go.Proofs.YtkfedkckakegjaaW.PrintLast Go.Proofs.YtkfedkckakegjaaW.PrintMore Go.Proofs.Ytkfedkckakegjaa.P Go.Proofs.Ytkfedkckakegjaa.T
set_option linter.unusedVariables false
def findA (F : List Int) : List Int → List (List Int) → List Int × Bool
  | [], _ => ([], false)
  | _ :: _, [] => ([], false)
  | s :: S, x :: X => if s ∈ F then (x, true) else findA F S X
theorem findA_at (F : List Int) {S : List Int} {X : List (List Int)} {i : Nat} (h : i < S.length) (hx : i < X.length) :
    findA F (S.drop i) (X.drop i) = if rd S i ∈ F then (rd_L1 X i, true) else findA F (S.drop (i + 1)) (X.drop (i + 1)) := by
  rw [List.drop_eq_getElem_cons h, List.drop_eq_getElem_cons hx, findA]
  simp [rd, rd_L1, h, hx]
/-- Small enough to be looked at. -/
def AuSmall (N : List (List Int)) (F : List Int) : Prop := N.length ≤ 1048576 ∧ (∀ x ∈ N, x.length ≤ 1048576) ∧ F.length ≤ 1048576
instance (N : List (List Int)) (F : List Int) : Decidable (AuSmall N F) := by unfold AuSmall; infer_instance
theorem bfsA_word {L : Int} {N : List (List Int)} {F : List Int} (h : AuOk L N F) : (bfsA N).1.length ≤ 12 ∧ (bfsA N).2.length = (bfsA N).1.length ∧ ∀ x ∈ (bfsA N).2, x.length ≤ 12 := by
  obtain ⟨h1, _⟩ := bfsA_end h
  have hs := h1.short
  have h12 := h.2.1
  refine ⟨by omega, h1.len, fun x hx => ?_⟩
  obtain ⟨j, hj, e⟩ := List.getElem_of_mem hx
  have := (h1.way j ((bfsA N).1[j]'(by rw [← h1.len]; exact hj)) x (List.getElem?_eq_getElem _) (by rw [← e]; exact List.getElem?_eq_getElem hj)).2
  have := h1.len
  omega
theorem findA_len (F : List Int) (b : Nat) : ∀ (S : List Int) (X : List (List Int)), (∀ x ∈ X, x.length ≤ b) → (findA F S X).1.length ≤ b := by
  intro S
  induction S with
  | nil => intro X _; simp [findA]
  | cons s S ih =>
    intro X h
    cases X with
    | nil => simp [findA]
    | cons x X =>
      rw [findA]
      split
      · exact h x List.mem_cons_self
      · exact ih X (fun y hy => h y (List.mem_cons_of_mem _ hy))
end Go.Proofs.Ytkfedkckakegjaa.A
