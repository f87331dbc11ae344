/- The reference's auReach: the states that are reached, with their words, by breadth-first search. -/
import Derived.Test.YtkfedkckakegjaaYFnExactAcceptedWordsPx16
import Derived.Test.YtkfedkckakegjaaYFnExactAcceptedWordsAAu
import Derived.Test.YtkfedkckakegjaaABfs
namespace Go.Proofs.Ytkfedkckakegjaa.A
open Go.RowKit Go.Proofs.YtkfedkckakegjaaW.PrintWords Go.Proofs.YtkfedkckakegjaaW.PrintLast Go.Proofs.YtkfedkckakegjaaW.PrintMore Go.Proofs.Ytkfedkckakegjaa.P Go.Proofs.Ytkfedkckakegjaa.T
set_option linter.unusedVariables false
set_option linter.unusedSimpArgs false

def succA (N : List (List Int)) (s : Int) : List Int := N.getD s.toNat []
def VA (N : List (List Int)) (s : Int) : Prop := 0 ≤ s ∧ s < (N.length : Int)
def bfsA (N : List (List Int)) : List Int × List (List Int) := bfsN (succA N) 0 N.length 0 ([0], [[]])
theorem AuOk.succ {L : Int} {N : List (List Int)} {F : List Int} (h : AuOk L N F) : ∀ x, VA N x → ∀ t ∈ succA N x, VA N t := by
  intro x hx t ht
  have hm : N.getD x.toNat [] ∈ N := by
    have hl : x.toNat < N.length := by unfold VA at hx; omega
    rw [List.getD_eq_getElem?_getD, List.getElem?_eq_getElem hl]; exact List.getElem_mem _
  have := (h.2.2.1 _ hm).2 t ht
  unfold VA; omega
theorem bfsA_end {L : Int} {N : List (List Int)} {F : List Int} (h : AuOk L N F) : BInv (succA N) (VA N) 0 (bfsA N) ∧ Closed (succA N) (bfsA N).1.length (bfsA N) :=
  bfs_end 0 (fun s => s.toNat) N.length h.succ (fun x hx => by unfold VA at hx; omega) (fun x y hx hy e => by unfold VA at hx hy; omega) N.length 0 _ (by omega) (BInv.one (show VA N 0 from ⟨by omega, by have := h.2.1; omega⟩)) (fun j x hj => absurd hj (Nat.not_lt_zero _))
theorem BInv.short {N : List (List Int)} {p : List Int × List (List Int)} (h : BInv (succA N) (VA N) 0 p) : p.1.length ≤ N.length :=
  nodup_bound (fun s => s.toNat) N.length p.1 h.nodup (fun x hx => by have := h.valid x hx; unfold VA at this; omega) (fun x hx y hy e => by have := h.valid x hx; have := h.valid y hy; unfold VA at *; omega)
section
variable {L : Int} {N : List (List Int)} {F : List Int} {R : List Int × List (List Int)}
theorem reach_l1 (idx : Nat) (w : List Int) (hw : w.length ≤ 1000) (row : List Int) (hr : row.length ≤ maxLen) : ∀ (suf pre : List Int) (S : List Int) (W : List (List Int)), row = pre ++ suf → W[idx]? = some w →
    (rowGo w pre.length suf (S, W)).1.length ≤ 1000 → (rowGo w pre.length suf (S, W)).2.length ≤ 1000 →
    Ev (fun k => spec_auReach.l0 k (rowGo w pre.length suf (S, W)).1 (rowGo w pre.length suf (S, W)).2 (wrap64 ((idx : Int) + 1)) L N F) R →
    Ev (fun k => spec_auReach.l1 k S W (idx : Int) row (row.length : Int) (pre.length : Int) L N F) R := by
  intro suf
  induction suf with
  | nil =>
    intro pre S W h1 h2 h3 h4 h
    subst h1
    exact Ev.step (fun k => spec_auReach.l1.eq_2 ..) (ev_neg (by simp) h)
  | cons t suf ih =>
    intro pre S W h1 h2 h3 h4 h
    subst h1
    have hlt := lt_mid pre t suf
    obtain ⟨a, b, e⟩ := rowGo_grows w (t :: suf) pre.length (S, W)
    have hS : S.length ≤ 1000 := by rw [e] at h3; simp at h3; omega
    have hW : W.length ≤ 1000 := by rw [e] at h4; simp at h4; omega
    have hix := (List.getElem?_eq_some_iff.1 h2).1
    refine Ev.step (fun k => spec_auReach.l1.eq_2 ..) (ev_pos hlt (ev_pos (by omega) (ev_pos hlt ?_)))
    rw [rd_mid, next_mid pre t suf hr]
    refine ev_bind (l1Has S t (by simp only [maxLen]; omega)) ?_
    simp only [decide_eq_true_eq]
    have hlen : (pre.length : Int) + 1 = ((pre ++ [t]).length : Int) := by simp
    rw [rowGo, hlen] at h3 h4 h
    by_cases hm : t ∈ S
    · rw [if_pos (show t ∈ (S, W).1 from hm)] at h3 h4 h
      exact ev_pos hm (ih (pre ++ [t]) S W (assoc_mid _ _ _) h2 h3 h4 h)
    · rw [if_neg (show ¬ t ∈ (S, W).1 from hm)] at h3 h4 h
      have hrow : rd_L1 W (idx : Int) = w := by simp [rd_L1, List.getD_eq_getElem?_getD, h2]
      refine ev_neg hm (ev_pos (by omega) (ev_pos (by omega) (ev_pos (by omega) (ev_bindc (by rw [hrow]; exact l1Own w (by omega)) (ev_pos (by omega) (ev_pos (by omega) ?_))))))
      exact ih (pre ++ [t]) (S ++ [t]) (W ++ [w ++ [(pre.length : Int)]]) (assoc_mid _ _ _) (by rw [List.getElem?_append_left hix]; exact h2) h3 h4 h
theorem reach_l0 (hA : AuOk L N F) (hr : ∀ x ∈ N, x.length ≤ maxLen) : ∀ (d i : Nat) (p : List Int × List (List Int)), i + d = N.length → BInv (succA N) (VA N) 0 p → Closed (succA N) i p →
    Ev (fun k => spec_auReach.l0 k p.1 p.2 (i : Int) L N F) (bfsN (succA N) 0 d i p) := by
  have hn := hA.2.1
  intro d
  induction d with
  | zero =>
    intro i p hi h hc
    have := h.short
    exact Ev.step (fun k => spec_auReach.l0.eq_2 ..) (ev_neg (by omega) (ev_const rfl))
  | succ d ih =>
    intro i p hi h hc
    rw [bfsN]
    by_cases hlt : i < p.1.length
    · rw [if_pos hlt]
      obtain ⟨h2, c2⟩ := bfs_step 0 hA.succ h hc hlt
      have hs := h2.short
      have hx : rd p.1 (i : Int) = p.1.getD i 0 := by simp [rd]
      have hv := h.valid _ (List.mem_of_getElem? (show p.1[i]? = some (p.1.getD i 0) by simp [List.getD_eq_getElem?_getD, hlt]))
      have hi2 : i < p.2.length := by rw [h.len]; exact hlt
      have hw := h.way i (p.1.getD i 0) (p.2.getD i []) (by simp [List.getD_eq_getElem?_getD, hlt]) (by simp [List.getD_eq_getElem?_getD, hi2])
      have hrow : rd_L1 N (p.1.getD i 0) = succA N (p.1.getD i 0) := rfl
      have hmem : rd_L1 N (p.1.getD i 0) ∈ N := rdl_mem hv.1 hv.2
      refine Ev.step (fun k => spec_auReach.l0.eq_2 ..) (ev_pos (by omega) (ev_pos (by omega) (ev_pos (by rw [hx]; exact hv.1) (ev_pos (by rw [hx]; exact hv.2) ?_))))
      rw [hx, hrow]
      refine reach_l1 i (p.2.getD i []) (by have := h.short; omega) _ (hr _ hmem) (succA N (p.1.getD i 0)) [] p.1 p.2 rfl (by simp [List.getD_eq_getElem?_getD, hi2]) (by simp only [List.length_nil, Int.ofNat_zero] at *; exact Nat.le_trans hs (by omega)) (by simp only [List.length_nil]; rw [show ((0 : Nat) : Int) = 0 from rfl, h2.len]; omega) ?_
      rw [wrap_id (x := (i : Int) + 1) (by have := h.short; omega) (by have := h.short; omega)]
      exact ih (i + 1) _ (by omega) h2 c2
    · rw [if_neg hlt]
      exact Ev.step (fun k => spec_auReach.l0.eq_2 ..) (ev_neg (by omega) (ev_const rfl))
theorem auReach (hA : AuOk L N F) (hr : ∀ x ∈ N, x.length ≤ maxLen) : Ev (fun k => spec_auReach.f k L N F) (bfsA N) := by
  unfold spec_auReach.f
  exact reach_l0 hA hr N.length 0 ([0], [[]]) (by omega) (BInv.one (show VA N 0 from ⟨by omega, by have := hA.2.1; omega⟩)) (fun j x hj => absurd hj (Nat.not_lt_zero _))
end
end Go.Proofs.Ytkfedkckakegjaa.A
