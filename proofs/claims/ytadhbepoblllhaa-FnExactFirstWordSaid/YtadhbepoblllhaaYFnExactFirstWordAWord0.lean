/- The kinds of words, and the first pair of a kind. -/
import Derived.Test.YtadhbepoblllhaaYFnExactFirstWordPx11
import Derived.Test.YtadhbepoblllhaaYFnExactFirstWordAPairs0
namespace Go.Proofs.Ytadhbepoblllhaa.A
open Go.RowKit Go.Proofs.YtadhbepoblllhaaW.PrintWords Go.Proofs.YtadhbepoblllhaaW.PrintLast Go.Proofs.YtadhbepoblllhaaW.PrintMore Go.Proofs.Ytadhbepoblllhaa.P Go.Proofs.Ytadhbepoblllhaa.T
set_option linter.unusedVariables false
set_option linter.unusedSimpArgs false
def isK (kind : Int) (a b : Bool) : Bool := if kind = 1 then a && b else if kind = 2 then a || b else if kind = 3 then a != b else a && !b
def findP (kind : Int) (F G : List Int) : List (Int × Int) → List (List Int) → List Int × Bool
  | s :: S, w :: W => if isK kind (decide (s.1 ∈ F)) (decide (s.2 ∈ G)) = true then (w, true) else findP kind F G S W
  | _, _ => ([], false)
theorem eqIs (kind : Int) (a b : Bool) : spec_eqIs.f kind a b = some (isK kind a b) := by
  unfold spec_eqIs.f isK
  cases a <;> cases b <;> (repeat' split) <;> simp_all
theorem findP_at (kind : Int) (F G : List Int) {S : List (Int × Int)} {X : List (List Int)} {i : Nat} {s : Int × Int} {x : List Int} (h : S[i]? = some s) (hx : X[i]? = some x) :
    findP kind F G (S.drop i) (X.drop i) = if isK kind (decide (s.1 ∈ F)) (decide (s.2 ∈ G)) = true then (x, true) else findP kind F G (S.drop (i + 1)) (X.drop (i + 1)) := by
  obtain ⟨h1, h2⟩ := List.getElem?_eq_some_iff.1 h
  obtain ⟨h3, h4⟩ := List.getElem?_eq_some_iff.1 hx
  rw [List.drop_eq_getElem_cons h1, List.drop_eq_getElem_cons h3, h2, h4, findP]
end Go.Proofs.Ytadhbepoblllhaa.A
