/- The table of a board, in plain words: its values are those of its entries; none, where one of them is held or lost. -/
import Derived.Test.YtcilbmbgdcepgaaYFnExactTableOfBoardAEn
namespace Go.Proofs.Ytcilbmbgdcepgaa.A
open Go.RowKit YtcilbmbgdcepgaaW.PrintWords YtcilbmbgdcepgaaW.PrintLast YtcilbmbgdcepgaaW.PrintMore P T
set_option linter.unusedVariables false
set_option linter.unusedSimpArgs false

def TbOk (r c : Int) (l : List S71) (split n : Int) : Prop := BoOk r c l ∧ (0 ≤ n ∧ n ≤ 3) ∧ c = 2 ^ n.toNat ∧ 0 ≤ split ∧ split ≤ c
instance (r c : Int) (l : List S71) (split n : Int) : Decidable (TbOk r c l split n) := by unfold TbOk; infer_instance
def valsE (r c : Int) (l : List S71) (split : Int) : List Int := (List.range' 0 c.toNat).map fun (i : Nat) => valE r c l split (i : Int)
def resTB (r c : Int) (l : List S71) (split n : Int) : Int × List Int × Bool :=
 if TbOk r c l split n then (if ∀ v ∈ valsE r c l split, 0 ≤ v then (n, valsE r c l split, true) else (0, [], false)) else (0, [], false)
theorem valsE_len (r c : Int) (l : List S71) (split : Int) : (valsE r c l split).length = c.toNat := by unfold valsE; simp
theorem tbBad (r c : Int) (l : List S71) (split n : Int) (bo b7 b11 b18 b22 b27 : Bool) (h0 : bo = decide (BoOk r c l)) (h7 : b7 = (!bo || decide (n < 0))) (h11 : b11 = (b7 || decide (3 < n))) (h18 : b18 = (b11 || (c != 2 ^ n.toNat))) (h22 : b22 = (b18 || decide (split < 0))) (h27 : b27 = (b22 || decide (c < split))) :
  (b27 = true ∧ resTB r c l split n = (0, [], false)) ∨ (b27 = false ∧ TbOk r c l split n) := by
 by_cases hT : TbOk r c l split n
 ·refine Or.inr ⟨?_, hT⟩
  obtain ⟨t1, t2, t3, t4⟩ := hT
  rw [h27, h22, h18, h11, h7, h0, decide_eq_true t1, decide_eq_false (show ¬ n < 0 by omega), decide_eq_false (show ¬ 3 < n by omega), decide_eq_false (show ¬ split < 0 by omega), decide_eq_false (show ¬ c < split by omega), t3]
  simp
 ·refine Or.inl ⟨?_, by unfold resTB; rw [if_neg hT]⟩
  cases hb : b27
  ·exfalso
   subst hb
   simp only [h22, h18, h11, h7, h0, Bool.false_eq, Bool.or_eq_false_iff, Bool.not_eq_false', decide_eq_true_eq, decide_eq_false_iff_not, bne_eq_false_iff_eq] at h27
   obtain ⟨⟨⟨⟨⟨g1, g2⟩, g3⟩, g4⟩, g5⟩, g6⟩ := h27
   exact hT ⟨g1, ⟨by omega, by omega⟩, g4, by omega, by omega⟩
  ·rfl
end Go.Proofs.Ytcilbmbgdcepgaa.A
