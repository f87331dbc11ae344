/- The rows of two boards beside each other, in plain lists. -/
import Derived.Test.YtcilbmbgdcepgaaYFnExactCountersBesideABo
namespace Go.Proofs.Ytcilbmbgdcepgaa.A
open Go.RowKit Go.Proofs.YtcilbmbgdcepgaaW.PrintWords Go.Proofs.YtcilbmbgdcepgaaW.PrintLast Go.Proofs.YtcilbmbgdcepgaaW.PrintMore Go.Proofs.Ytcilbmbgdcepgaa.P Go.Proofs.Ytcilbmbgdcepgaa.T
set_option linter.unusedVariables false
set_option linter.unusedSimpArgs false

/-- The rows of two boards beside each other, from row r on. -/
def besL (ca cb : Nat) (a b : List S71) : Nat → Nat → List S71 → List S71
  | 0, _, acc => acc
  | d + 1, r, acc => besL ca cb a b d (r + 1) ((acc ++ (a.drop (r * ca)).take ca) ++ (b.drop (r * cb)).take cb)
theorem besL_len (ca cb : Nat) (a b : List S71) : ∀ (d r : Nat) (acc : List S71), (r + d) * ca ≤ a.length → (r + d) * cb ≤ b.length → (besL ca cb a b d r acc).length = acc.length + d * (ca + cb) := by
  intro d
  induction d with
  | zero => intro r acc _ _; simp [besL]
  | succ d ih =>
    intro r acc ha hb
    have ha' : (r + 1) * ca ≤ a.length := Nat.le_trans (Nat.mul_le_mul_right _ (by omega)) ha
    have hb' : (r + 1) * cb ≤ b.length := Nat.le_trans (Nat.mul_le_mul_right _ (by omega)) hb
    rw [Nat.succ_mul] at ha' hb'
    rw [besL, ih (r + 1) _ (by rw [show r + 1 + d = r + (d + 1) by omega]; exact ha) (by rw [show r + 1 + d = r + (d + 1) by omega]; exact hb)]
    simp only [List.length_append, List.length_take, List.length_drop]
    rw [Nat.min_eq_left (by omega), Nat.min_eq_left (by omega), Nat.succ_mul]
    omega
theorem besL_all (p : S71 → Prop) (ca cb : Nat) (a b : List S71) (ha : ∀ x ∈ a, p x) (hb : ∀ x ∈ b, p x) : ∀ (d r : Nat) (acc : List S71), (∀ x ∈ acc, p x) → ∀ x ∈ besL ca cb a b d r acc, p x := by
  intro d
  induction d with
  | zero => intro r acc h; exact h
  | succ d ih =>
    intro r acc h
    refine ih (r + 1) _ ?_
    intro x hx
    rcases List.mem_append.1 hx with hx | hx
    · rcases List.mem_append.1 hx with hx | hx
      · exact h x hx
      · exact ha x (List.mem_of_mem_drop (List.mem_of_mem_take hx))
    · exact hb x (List.mem_of_mem_drop (List.mem_of_mem_take hx))
end Go.Proofs.Ytcilbmbgdcepgaa.A
