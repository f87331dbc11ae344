/- PartCount: the program returns what the reference returns, for all boards. -/
import Derived.Test.YtlagoaoenaaglaaRowFnExactPartCount
import Derived.Test.YtlagoaoenaaglaaABo
namespace Go.Proofs.Ytlagoaoenaaglaa.A
open Go.RowKit Go.Proofs.YtlagoaoenaaglaaW.PrintWords Go.Proofs.YtlagoaoenaaglaaW.PrintLast Go.Proofs.YtlagoaoenaaglaaW.PrintMore Go.Proofs.Ytlagoaoenaaglaa.P Go.Proofs.Ytlagoaoenaaglaa.T Go.Proofs.Ytlagoaoenaaglaa.Op
set_option linter.unusedVariables false

theorem lawPartCount : fnExactPartCount.Pure := by
  intro r c l hr hc hl
  refine Ev.rounds ?_
  unfold laws_FnExactPartCount.f
  refine ev_bindc (szBo r c l 1048576 (by omega) hl.1) ?_
  by_cases h : (1048576 : Int) - (l.length : Int) < 0
  · rw [if_pos h]; exact ev_const rfl
  have hlen : l.length ≤ 1048576 := by omega
  have hml : (l.map cpC).length ≤ maxLen := by simp [maxLen]; omega
  rw [if_neg h]
  refine ev_neg h (ev_bind (toBo r c l hlen) ?_)
  have tail : ∀ (g w : Int × Bool), g = w → Ev (fun k => if g.1 = w.1 then (laws_FnExactPartCount.j0 k (g.2 != w.2) r c l r c (l.map cpC)) else (laws_FnExactPartCount.j0 k true r c l r c (l.map cpC))) true := by
    intro g w e
    subst e
    exact ev_pos rfl (Ev.step (fun k => laws_FnExactPartCount.j0.eq_2 ..) (ev_neg (by simp) (ev_bind (toBo r c l hlen) (ev_bind (eqBo _ _ _ hml) (ev_const rfl)))))
  by_cases hb : BoOk r c (l.map cpC)
  · have h90 := hb.len
    obtain ⟨ps, h1, h2, h3⟩ := boParts r c _ hb
    have hs : Ev (fun k => spec_PartCount.f k r c (l.map cpC)) ((((l.map cpC).filter fun x => x.f0 ≠ 0).length : Int), true) := by
      unfold spec_PartCount.f
      refine ev_bind (boGood r c _ hml) ?_
      rw [decide_eq_true hb]
      refine ev_pos rfl (ev_bind h1 (ev_pos (by omega) (ev_const ?_)))
      have e : rd ps 0 = kindCount 0 (l.map cpC) := by simpa [rd] using h3 0 (by omega)
      have e2 := kindCount_rest (l.map cpC)
      have e4 : 0 ≤ kindCount 0 (l.map cpC) := by unfold kindCount; omega
      rw [e, wrap_id (by omega) (by omega)]
      congr 2
      omega
    have hi : Ev (fun k => impl_PartCount.f k r c (l.map cpC)) ((((l.map cpC).filter fun x => x.f0 ≠ 0).length : Int), true) := by
      unfold impl_PartCount.f
      refine ev_bind (isBoard r c _ hml) ?_
      rw [decide_eq_true hb]
      exact ev_pos rfl (ev_bind (partsOf r c _ (by omega)) (ev_const rfl))
    exact ev_bind hs (ev_bind (toBo r c l hlen) (ev_bind hi (tail _ _ rfl)))
  · have hs : Ev (fun k => spec_PartCount.f k r c (l.map cpC)) (0, false) := by
      unfold spec_PartCount.f
      refine ev_bind (boGood r c _ hml) ?_
      rw [decide_eq_false hb]
      exact ev_neg (by simp) (ev_const rfl)
    have hi : Ev (fun k => impl_PartCount.f k r c (l.map cpC)) (0, false) := by
      unfold impl_PartCount.f
      refine ev_bind (isBoard r c _ hml) ?_
      rw [decide_eq_false hb]
      exact ev_neg (by simp) (ev_const rfl)
    exact ev_bind hs (ev_bind (toBo r c l hlen) (ev_bind hi (tail _ _ rfl)))
end Go.Proofs.Ytlagoaoenaaglaa.A
namespace Go.Proofs.Ytlagoaoenaaglaa
/-- The row. -/
theorem fnExactPartCount_holds : Rows.FnExactPartCountSaid := fnExactPartCount.over A.lawPartCount
end Go.Proofs.Ytlagoaoenaaglaa
