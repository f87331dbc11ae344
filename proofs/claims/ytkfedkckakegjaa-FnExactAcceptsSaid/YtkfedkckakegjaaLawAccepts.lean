/- FnExactAccepts: the program returns what the reference returns, for all automata and words. -/
import Derived.Test.YtkfedkckakegjaaRowFnExactAccepts
import Derived.Test.YtkfedkckakegjaaAAu
namespace Go.Proofs.Ytkfedkckakegjaa.A
open Go.RowKit Go.Proofs.YtkfedkckakegjaaW.PrintWords Go.Proofs.YtkfedkckakegjaaW.PrintLast Go.Proofs.YtkfedkckakegjaaW.PrintMore Go.Proofs.Ytkfedkckakegjaa.P Go.Proofs.Ytkfedkckakegjaa.T Go.Proofs.Ytkfedkckakegjaa.Op
set_option linter.unusedVariables false

def accs (L : Int) (N : List (List Int)) (F w : List Int) : Bool × Bool := if AuOk L N F ∧ WordOk L w then (decide (runA N 0 w ∈ F), true) else (false, false)
theorem specAccepts (L : Int) (N : List (List Int)) (F w : List Int) (hN : N.length ≤ maxLen) (hr : ∀ x ∈ N, x.length ≤ maxLen) (hF : F.length ≤ maxLen) (hw : w.length ≤ maxLen) : Ev (fun k => spec_Accepts.f k L N F w) (accs L N F w) := by
  unfold spec_Accepts.f accs
  refine ev_bind (auGood L N F hN hr hF) ?_
  simp only [decide_eq_true_eq]
  by_cases h : AuOk L N F
  · refine ev_pos h (ev_bind (auWord L N F w h.1 hw) (Ev.step (fun k => spec_Accepts.j0.eq_2 ..) ?_))
    by_cases h2 : WordOk L w
    · rw [if_pos ⟨h, h2⟩]
      exact ev_neg (by simpa using h2) (ev_bind (auRun L N F h w hw h2.2) (ev_bind (l1Has F _ hF) (ev_const rfl)))
    · rw [if_neg (fun h3 => h2 h3.2)]
      exact ev_pos (by simpa using h2) (ev_const rfl)
  · rw [if_neg (fun h3 => h h3.1)]
    exact ev_neg h (Ev.step (fun k => spec_Accepts.j0.eq_2 ..) (ev_pos rfl (ev_const rfl)))
theorem implAccepts (L : Int) (N : List (List Int)) (F w : List Int) (hN : N.length ≤ maxLen) (hr : ∀ x ∈ N, x.length ≤ maxLen) (hF : F.length ≤ maxLen) (hw : w.length ≤ maxLen) : Ev (fun k => impl_Accepts.f k L N F w) (accs L N F w) := by
  unfold impl_Accepts.f accs
  refine ev_bind (isAu L N F hN hr hF) ?_
  simp only [decide_eq_true_eq]
  by_cases h : AuOk L N F
  · refine ev_pos h (ev_bind (isWord L w hw) (Ev.step (fun k => impl_Accepts.j0.eq_2 ..) ?_))
    by_cases h2 : WordOk L w
    · rw [if_pos ⟨h, h2⟩]
      exact ev_neg (by simpa using h2) (ev_bind (stateAfter L N F h w hw h2.2) (ev_bind (contains F _ hF) (ev_const rfl)))
    · rw [if_neg (fun h3 => h2 h3.2)]
      exact ev_pos (by simpa using h2) (ev_const rfl)
  · rw [if_neg (fun h3 => h h3.1)]
    exact ev_neg h (Ev.step (fun k => impl_Accepts.j0.eq_2 ..) (ev_pos rfl (ev_const rfl)))
theorem lawFnExactAccepts : fnExactAccepts.Pure := by
  intro L N F w hL hN hF hw
  refine Ev.rounds ?_
  unfold laws_FnExactAccepts.f
  have hNm := hN.1
  have hrm : ∀ x ∈ N, x.length ≤ maxLen := fun x hx => (hN.2 x hx).1
  by_cases hwl : (w.length : Int) > 1048576
  · exact ev_pos hwl (ev_const rfl)
  obtain ⟨s, hs, hsm⟩ := szAu L N F hNm hrm hF.1
  refine ev_neg hwl (ev_bind hs ?_)
  by_cases h : s < 0
  · exact ev_pos h (ev_const rfl)
  obtain ⟨_, h1, h2, h3⟩ := hsm (by omega)
  have hto := toAu L N F h1 h2 h3
  have htw := toInts w (by omega)
  refine ev_neg h (ev_bind hto (ev_bind htw (ev_bind (specAccepts L N F w hNm hrm hF.1 hw.1) (ev_bind hto (ev_bind htw (ev_bind (implAccepts L N F w hNm hrm hF.1 hw.1) ?_))))))
  refine ev_neg (by simp) (Ev.step (fun k => laws_FnExactAccepts.j0.eq_2 ..) (ev_neg (by simp) (ev_bind hto (ev_bind (eqAu L N F hNm hrm hF.1) (ev_pos rfl (ev_bind htw (ev_bind (eqInts w hw.1) (ev_const rfl))))))))
end Go.Proofs.Ytkfedkckakegjaa.A
namespace Go.Proofs.Ytkfedkckakegjaa
/-- The row. -/
theorem fnExactAccepts_holds : Rows.FnExactAcceptsSaid := fnExactAccepts.over A.lawFnExactAccepts
end Go.Proofs.Ytkfedkckakegjaa
