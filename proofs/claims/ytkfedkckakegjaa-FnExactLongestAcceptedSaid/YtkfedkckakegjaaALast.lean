/- The last true one of a list, and what the reference's LongestAccepted makes of it. -/
import Derived.Test.YtkfedkckakegjaaT
namespace Go.Proofs.Ytkfedkckakegjaa.A
open Go.RowKit Go.Proofs.YtkfedkckakegjaaW.PrintWords
def lastGo : List Bool → Int → Int → Int
  | [], _, acc => acc
  | b :: l, i, acc => lastGo l (i + 1) (if b = true then i else acc)
theorem lastGo_snoc (b : Bool) : ∀ (l : List Bool) (i acc : Int), lastGo (l ++ [b]) i acc = if b = true then i + (l.length : Int) else lastGo l i acc := by
  intro l
  induction l with
  | nil => intro i acc; simp [lastGo]
  | cons a l ih =>
    intro i acc
    rw [List.cons_append, lastGo, ih, lastGo]
    split
    · simp only [List.length_cons, Int.natCast_add, Int.natCast_one]; omega
    · rfl
theorem lastGo_bd : ∀ (l : List Bool) (i acc : Int), -1 ≤ acc → 0 ≤ i → acc ≤ i → -1 ≤ lastGo l i acc ∧ lastGo l i acc ≤ i + (l.length : Int) := by
  intro l
  induction l with
  | nil => intro i acc h h0 h1; simp only [lastGo, List.length_nil]; omega
  | cons a l ih =>
    intro i acc h h0 h1
    rw [lastGo]
    have := ih (i + 1) (if a = true then i else acc) (by split <;> omega) (by omega) (by split <;> omega)
    simp only [List.length_cons, Int.natCast_add, Int.natCast_one]
    omega
def lastB (l : List Bool) : Int × Bool := if lastGo (l.take (l.length - 1)) 0 (-1) < 0 ∨ l.getD (l.length - 1) false = true then (0, false) else (lastGo (l.take (l.length - 1)) 0 (-1), true)
end Go.Proofs.Ytkfedkckakegjaa.A
