/- What the printed functions on states of counters come to. -/
import Derived.Test.YtbcphkblieeemaaYFnExactIsEndlessPx31
import Derived.Test.YtbcphkblieeemaaZFnExactIsEndless0
import Derived.Test.YtbcphkblieeemaaYFnExactIsEndlessPx63
import Derived.Test.YtbcphkblieeemaaYFnExactIsEndlessPx23
import Derived.Test.YtbcphkblieeemaaYFnExactIsEndlessAIns
namespace Go.Proofs.Ytbcphkblieeemaa.A
open Go.RowKit Go.Proofs.YtbcphkblieeemaaW.PrintWords Go.Proofs.YtbcphkblieeemaaW.PrintLast Go.Proofs.YtbcphkblieeemaaW.PrintMore Go.Proofs.Ytbcphkblieeemaa.P Go.Proofs.Ytbcphkblieeemaa.T
set_option linter.unusedVariables false
set_option linter.unusedSimpArgs false
theorem szCt (a : Int) (l : List Int) (m : Int) (ha : 0 ≤ m ∧ m ≤ 1048576) (h : l.length ≤ maxLen) : laws_szCounterState.f a l m = some (if m - (l.length : Int) < 0 then -1 else m - (l.length : Int)) := by
  unfold laws_szCounterState.f
  rw [szInts l m ha h, Option.bind_some]
  by_cases h1 : m - (l.length : Int) < 0
  · rw [if_pos h1, if_pos (by omega)]
  · rw [if_neg h1, if_neg h1]
theorem toCt (a : Int) (l : List Int) (h : l.length ≤ 1048576) : Ev (fun k => laws_toCounterState.f k a l) (a, l) := by
  unfold laws_toCounterState.f
  exact ev_bind (toInts l h) (ev_const rfl)
theorem eqCt (a : Int) (l : List Int) (h : l.length ≤ maxLen) : Ev (fun k => laws_eqCounterState.f k a l a l) true := by
  unfold laws_eqCounterState.f
  exact ev_pos rfl (ev_bind (eqInts l h) (ev_const rfl))
theorem markCt (a : Int) (l : List Int) (m : Int) (h : l.length ≤ maxLen) (h0 : 0 ≤ m) (h1 : m + (l.length : Int) ≤ 9223372036854775807) : Ev (fun k => laws_markCounterState.f k a l m) (m + (l.length : Int), iota m l.length) := by
  unfold laws_markCounterState.f
  exact ev_bind (markInts l m h h0 h1) (ev_const rfl)
theorem heldCt (a : Int) (n : Nat) (m : Int) (h : n ≤ maxLen) (h0 : 0 ≤ m) (h1 : m + (n : Int) ≤ 9223372036854775807) : Ev (fun k => laws_heldCounterState.f k a (iota m n) m) (m + (n : Int)) := by
  unfold laws_heldCounterState.f
  exact ev_bind (heldInts n m h h0 h1) (ev_neg (by omega) (ev_const rfl))
def StOk (l : List S55) (line : Int) (vs : List Int) : Prop := AreI l vs.length ∧ (0 ≤ line ∧ line ≤ l.length) ∧ ∀ v ∈ vs, 0 ≤ v ∧ v ≤ 10000
instance (l : List S55) (line : Int) (vs : List Int) : Decidable (StOk l line vs) := by unfold StOk; infer_instance
def stOk (l : List S55) (line : Int) (vs : List Int) : Bool := decide (StOk l line vs)
theorem ctState (l : List S55) (line : Int) (vs : List Int) (h1 : l.length ≤ maxLen) (h2 : vs.length ≤ maxLen) : Ev (fun k => spec_ctState.f k l line vs) (stOk l line vs) := by
  unfold spec_ctState.f stOk
  refine ev_bind (ctGood l _ h1) ?_
  unfold areI
  simp only [in_f, Option.bind_some, decide_eq_true_eq]
  by_cases h : AreI l vs.length
  · refine ev_pos h ?_
    by_cases h3 : 0 ≤ line ∧ line ≤ (l.length : Int)
    · refine ev_pos h3 (ev_bind (l1All vs 0 10000 h2) (ev_const ?_))
      rw [Option.some.injEq, decide_eq_decide]
      exact ⟨fun h4 => ⟨h, h3, h4⟩, fun h4 => h4.2.2⟩
    · refine ev_neg h3 (ev_const ?_)
      rw [show decide (StOk l line vs) = false from decide_eq_false (fun h4 => h3 h4.2.1)]
  · refine ev_neg h (ev_const ?_)
    rw [show decide (StOk l line vs) = false from decide_eq_false (fun h4 => h h4.1)]
theorem specIsCt (l : List S55) (line : Int) (vs : List Int) (h1 : l.length ≤ maxLen) (h2 : vs.length ≤ maxLen) : Ev (fun k => spec_IsCounterState.f k l line vs) (stOk l line vs) := by
  unfold spec_IsCounterState.f
  exact ev_bind (ctState l line vs h1 h2) (ev_const rfl)
theorem isCt_loop (l : List Int) (hm : l.length ≤ maxLen) : ∀ (suf pre : List Int), l = pre ++ suf →
    Ev (fun k => impl_IsCounterState.l0 k l (l.length : Int) (pre.length : Int)) (decide (∀ v ∈ suf, 0 ≤ v ∧ v ≤ 10000)) := by
  intro suf
  induction suf with
  | nil =>
    intro pre hl
    subst hl
    exact Ev.step (fun k => impl_IsCounterState.l0.eq_2 ..) (ev_neg (not_lt_end _) (ev_const (by simp)))
  | cons y suf ih =>
    intro pre hl
    subst hl
    refine Ev.step (fun k => impl_IsCounterState.l0.eq_2 ..) (ev_pos (lt_mid _ _ _) (ev_pos (by omega) (ev_pos (lt_mid _ _ _) ?_)))
    simp only [rd_mid]
    by_cases h : 0 ≤ y ∧ y ≤ 10000
    · refine ev_neg (by omega) (ev_neg (by omega) ?_)
      rw [next_mid _ _ _ hm]
      have := ih (pre ++ [y]) (assoc_mid _ _ _)
      rw [show decide (∀ v ∈ y :: suf, 0 ≤ v ∧ v ≤ 10000) = decide (∀ v ∈ suf, 0 ≤ v ∧ v ≤ 10000) by rw [decide_eq_decide]; simp [h]]
      exact this
    · rw [show decide (∀ v ∈ y :: suf, 0 ≤ v ∧ v ≤ 10000) = false from decide_eq_false (fun hh => h (hh y List.mem_cons_self))]
      by_cases h0 : y < 0
      · exact ev_pos h0 (ev_const rfl)
      · exact ev_neg h0 (ev_pos (by omega) (ev_const rfl))
theorem implIsCt (l : List S55) (line : Int) (vs : List Int) (h1 : l.length ≤ maxLen) (h2 : vs.length ≤ maxLen) : Ev (fun k => impl_IsCounterState.f k l line vs) (stOk l line vs) := by
  unfold impl_IsCounterState.f stOk
  refine ev_bind (implAre l _ h1) ?_
  unfold areI
  simp only [decide_eq_true_eq]
  have no : ∀ b, b = true → ¬ StOk l line vs → Ev (fun k => impl_IsCounterState.j0 k b line vs) (decide (StOk l line vs)) := by
    intro b hb h
    rw [show decide (StOk l line vs) = false from decide_eq_false h]
    exact Ev.step (fun k => impl_IsCounterState.j0.eq_2 ..) (ev_pos hb (ev_const rfl))
  by_cases h : AreI l vs.length
  · refine ev_pos h ?_
    by_cases h3 : line < 0
    · exact ev_pos h3 (no _ rfl (fun h4 => by have := h4.2.1.1; omega))
    · refine ev_neg h3 ?_
      by_cases h4 : line > (l.length : Int)
      · exact no _ (decide_eq_true h4) (fun h5 => by have := h5.2.1.2; omega)
      · rw [show decide (line > (l.length : Int)) = false from decide_eq_false h4]
        refine Ev.step (fun k => impl_IsCounterState.j0.eq_2 ..) (ev_neg (by simp) ?_)
        have := isCt_loop vs h2 vs [] rfl
        rw [show decide (StOk l line vs) = decide (∀ v ∈ vs, 0 ≤ v ∧ v ≤ 10000) from decide_eq_decide.2 ⟨fun h5 => h5.2.2, fun h5 => ⟨h, ⟨by omega, by omega⟩, h5⟩⟩]
        exact this
  · exact ev_neg h (no _ rfl (fun h4 => h h4.1))
end Go.Proofs.Ytbcphkblieeemaa.A
