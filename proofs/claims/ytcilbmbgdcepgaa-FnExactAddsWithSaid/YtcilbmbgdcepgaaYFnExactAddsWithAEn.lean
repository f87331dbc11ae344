/- The value of an entry of a board, in plain words; whether an entry is valid, as the reference says it. -/
import Derived.Test.YtcilbmbgdcepgaaYFnExactAddsWithPx70
import Derived.Test.YtcilbmbgdcepgaaYFnExactAddsWithAFall
namespace Go.Proofs.Ytcilbmbgdcepgaa.A
open Go.RowKit YtcilbmbgdcepgaaW.PrintWords YtcilbmbgdcepgaaW.PrintLast YtcilbmbgdcepgaaW.PrintMore P T
set_option linter.unusedVariables false
set_option linter.unusedSimpArgs false

def EnOk (r c : Int) (l : List S71) (split idx : Int) : Prop := (BoOk r c l ∧ 0 ≤ idx ∧ idx < c) ∧ 0 ≤ split ∧ split ≤ c
instance (r c : Int) (l : List S71) (split idx : Int) : Decidable (EnOk r c l split idx) := by unfold EnOk; infer_instance
/-- The value of an entry, -1 where its marble is held or lost. -/
def valE (r c : Int) (l : List S71) (split idx : Int) : Int :=
 if (fallL r.toNat c.toNat l idx).1.1 = 1 then (if (fallL r.toNat c.toNat l idx).1.2.2 < split then 0 else 1) else -1
def resRE (r c : Int) (l : List S71) (split idx : Int) : Int × Bool :=
 if EnOk r c l split idx then (if valE r c l split idx < 0 then (0, false) else (valE r c l split idx, true)) else (0, false)
theorem nat_of {r c : Int} {l : List S71} (h : BoOk r c l) : ∃ R cn : Nat, r = (R : Int) ∧ c = (cn : Int) := ⟨r.toNat, c.toNat, by have := h.1.1; omega, by have := h.2.1.1; omega⟩
theorem flHas (r c : Int) (l : List S71) (col : Int) (hm : l.length ≤ maxLen) : Ev (fun k => spec_flHas.f k r c l col) (decide (BoOk r c l ∧ 0 ≤ col ∧ col < c)) := by
 unfold spec_flHas.f
 refine ev_bind (boGood r c l hm) ?_
 by_cases h : BoOk r c l
 ·rw [decide_eq_true h]
  have w1 : wrap64 (c - 1) = c - 1 := wrap_id (by have := h.2.1.1; omega) (by have := h.2.1.2; omega)
  have e : decide (0 ≤ col ∧ col ≤ c - 1) = decide (BoOk r c l ∧ 0 ≤ col ∧ col < c) := decide_eq_decide.2 ⟨fun h3 => ⟨h, h3.1, by clear w1; omega⟩, fun h3 => ⟨h3.2.1, by clear w1; have := h3.2.2; omega⟩⟩
  refine ev_pos rfl ?_
  rw [w1]
  exact ev_bindc (in_f _ _ _) (ev_const (congrArg some e))
 ·rw [decide_eq_false h, decide_eq_false (fun h3 : BoOk r c l ∧ 0 ≤ col ∧ col < c => h h3.1)]
  exact ev_neg (by simp) (ev_const rfl)
end Go.Proofs.Ytcilbmbgdcepgaa.A
