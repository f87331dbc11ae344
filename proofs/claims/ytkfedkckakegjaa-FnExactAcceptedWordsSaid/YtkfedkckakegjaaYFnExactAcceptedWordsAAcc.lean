/- The words of a length up to n that an automaton accepts, the first 40: what the program and the reference put together, in plain Lean. -/
import Derived.Test.YtkfedkckakegjaaYFnExactAcceptedWordsPx36
import Derived.Test.YtkfedkckakegjaaYFnExactAcceptedWordsPx34
import Derived.Test.YtkfedkckakegjaaYFnExactAcceptedWordsAAu
namespace Go.Proofs.Ytkfedkckakegjaa.A
open Go.RowKit Go.Proofs.YtkfedkckakegjaaW.PrintWords Go.Proofs.YtkfedkckakegjaaW.PrintLast Go.Proofs.YtkfedkckakegjaaW.PrintMore Go.Proofs.Ytkfedkckakegjaa.P Go.Proofs.Ytkfedkckakegjaa.T
set_option linter.unusedVariables false
set_option linter.unusedSimpArgs false
/-- A word with each letter behind it, from letter x on, d of them. -/
def kids (w : List Int) : Nat → Int → List (List Int)
  | 0, _ => []
  | d + 1, x => (w ++ [x]) :: kids w d (x + 1)
def putO (N : List (List Int)) (F : List Int) (w : List Int) (O : List (List Int)) : List (List Int) := if O.length < 40 ∧ runA N 0 w ∈ F then O ++ [w] else O
/-- One length: the words of it, those of the next. -/
def accB (N : List (List Int)) (F : List Int) (L : Nat) : List (List Int) → List (List Int) → List (List Int) → List (List Int) × List (List Int)
  | [], O, Y => (O, Y)
  | w :: X, O, Y => accB N F L X (putO N F w O) (Y ++ kids w L 0)
def accA (N : List (List Int)) (F : List Int) (L : Nat) : Nat → List (List Int) × List (List Int) → List (List Int)
  | 0, p => p.1
  | d + 1, p => accA N F L d (accB N F L p.2 p.1 [])
/-- A word of letters, no longer than k. -/
def VW (L : Int) (k : Nat) (w : List Int) : Prop := w.length ≤ k ∧ ∀ x ∈ w, 0 ≤ x ∧ x ≤ L - 1
theorem VW.snoc {L : Int} {k : Nat} {w : List Int} (h : VW L k w) {x : Int} (hx : 0 ≤ x ∧ x ≤ L - 1) : VW L (k + 1) (w ++ [x]) := by
  refine ⟨by have := h.1; simp; omega, fun y hy => ?_⟩
  rcases List.mem_append.1 hy with hy | hy
  · exact h.2 y hy
  · obtain rfl : y = x := by simpa using hy
    exact hx
theorem kids_len (w : List Int) (b : Nat) (hw : w.length ≤ b) : ∀ (d : Nat) (x : Int), ∀ y ∈ kids w d x, y.length ≤ b + 1 := by
  intro d
  induction d with
  | zero => intro x y hy; simp [kids] at hy
  | succ d ih =>
    intro x y hy
    rcases List.mem_cons.1 hy with rfl | hy
    · simp; omega
    · exact ih _ y hy
theorem putO_len (N : List (List Int)) (F : List Int) (w : List Int) (O : List (List Int)) (h : O.length ≤ 40) : (putO N F w O).length ≤ 40 := by
  unfold putO
  split
  · rename_i h; simp; omega
  · exact h
theorem putO_mem (N : List (List Int)) (F : List Int) (w : List Int) (O : List (List Int)) (b : Nat) (hw : w.length ≤ b) (h : ∀ x ∈ O, x.length ≤ b) : ∀ x ∈ putO N F w O, x.length ≤ b := by
  unfold putO
  split
  · intro x hx
    rcases List.mem_append.1 hx with hx | hx
    · exact h x hx
    · obtain rfl : x = w := by simpa using hx
      exact hw
  · exact h
theorem accB_len (N : List (List Int)) (F : List Int) (L b : Nat) : ∀ (X O Y : List (List Int)), (∀ x ∈ X, x.length ≤ b) → (∀ x ∈ O, x.length ≤ b) → (∀ x ∈ Y, x.length ≤ b + 1) → O.length ≤ 40 →
    (accB N F L X O Y).1.length ≤ 40 ∧ (∀ x ∈ (accB N F L X O Y).1, x.length ≤ b) ∧ ∀ x ∈ (accB N F L X O Y).2, x.length ≤ b + 1 := by
  intro X
  induction X with
  | nil => intro O Y _ h2 h3 h4; exact ⟨h4, h2, h3⟩
  | cons w X ih =>
    intro O Y h1 h2 h3 h4
    have hw := h1 w List.mem_cons_self
    refine ih _ _ (fun x hx => h1 x (List.mem_cons_of_mem _ hx)) (putO_mem N F w O b hw h2) (fun x hx => ?_) (putO_len N F w O h4)
    rcases List.mem_append.1 hx with hx | hx
    · exact h3 x hx
    · exact kids_len w b hw _ _ x hx
theorem accA_len (N : List (List Int)) (F : List Int) (L : Nat) : ∀ (d b : Nat) (O X : List (List Int)), (∀ x ∈ X, x.length ≤ b) → (∀ x ∈ O, x.length ≤ b) → O.length ≤ 40 → (accA N F L d (O, X)).length ≤ 40 ∧ ∀ x ∈ accA N F L d (O, X), x.length ≤ b + d := by
  intro d
  induction d with
  | zero => intro b O X _ h2 h3; exact ⟨h3, h2⟩
  | succ d ih =>
    intro b O X h1 h2 h3
    obtain ⟨q1, q2, q3⟩ := accB_len N F L b X O [] h1 h2 (by simp) h3
    obtain ⟨r1, r2⟩ := ih (b + 1) _ _ q3 (fun x hx => by have := q2 x hx; omega) q1
    exact ⟨r1, fun x hx => by have := r2 x hx; omega⟩
def resAccepted (L : Int) (N : List (List Int)) (F : List Int) (n : Int) : List (List Int) × Bool := if AuOk L N F ∧ 0 ≤ n ∧ n ≤ 6 then (accA N F L.toNat (n.toNat + 1) ([], [[]]), true) else ([], false)
theorem resAccepted_len (L : Int) (N : List (List Int)) (F : List Int) (n : Int) : (resAccepted L N F n).1.length ≤ 1000 ∧ ∀ x ∈ (resAccepted L N F n).1, x.length ≤ 1000 := by
  unfold resAccepted
  by_cases h : AuOk L N F ∧ 0 ≤ n ∧ n ≤ 6
  · rw [if_pos h]
    obtain ⟨h1, h2⟩ := accA_len N F L.toNat (n.toNat + 1) 0 [] [[]] (by simp) (by simp) (by simp)
    exact ⟨by simp only; omega, fun x hx => by have := h2 x hx; omega⟩
  · rw [if_neg h]; simp
end Go.Proofs.Ytkfedkckakegjaa.A
