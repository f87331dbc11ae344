/- What the printed functions on instructions come to: copies, comparison, and the two tests whether instructions are a program. -/
import Derived.Test.YtbcphkblieeemaaDoorPx7
import Derived.Test.YtbcphkblieeemaaDoorPx27
import Derived.Test.YtbcphkblieeemaaDoorPx3
import Derived.Test.YtbcphkblieeemaaDoorPx5
import Derived.Test.YtbcphkblieeemaaDoorPx1

import Derived.Test.YtbcphkblieeemaaDoorABase
namespace Go.Proofs.YtbcphkblieeemaaDoor.A
open Go.RowKit Go.Proofs.YtbcphkblieeemaaDoorW.PrintWords Go.Proofs.YtbcphkblieeemaaDoorW.PrintLast Go.Proofs.YtbcphkblieeemaaDoorW.PrintMore Go.Proofs.YtbcphkblieeemaaDoor.P Go.Proofs.YtbcphkblieeemaaDoor.T
set_option linter.unusedVariables false
set_option linter.unusedSimpArgs false

/-- The copy of one instruction. -/
def cpI (x : S54) : S52 := ⟨x.f0, x.f1, x.f2⟩

theorem toIns_loop (l : List S54) : ∀ (suf pre : List S54) (qre : List S52) (qsuf : List S52), l = pre ++ suf → l.length ≤ maxLen → qre.length = pre.length → qsuf.length = suf.length →
    Ev (fun k => laws_toInstructionS.l0 k l (qre ++ qsuf) (pre.length : Int)) (qre ++ suf.map cpI) := by
  intro suf
  induction suf with
  | nil =>
    intro pre qre qsuf hl hm h1 h2
    subst hl
    obtain rfl : qsuf = [] := List.length_eq_zero_iff.1 h2
    refine Ev.step (fun k => laws_toInstructionS.l0.eq_2 ..) ?_
    refine ev_neg (not_lt_end _) (ev_const (by simp))
  | cons y suf ih =>
    intro pre qre qsuf hl hm h1 h2
    subst hl
    obtain ⟨z, qsuf, rfl⟩ : ∃ z t, qsuf = z :: t := by cases qsuf with | nil => simp at h2 | cons z t => exact ⟨z, t, rfl⟩
    refine Ev.step (fun k => laws_toInstructionS.l0.eq_2 ..) ?_
    refine ev_pos (lt_mid _ _ _) (ev_pos (by omega) ?_)
    simp only [laws_toInstruction.f, Option.bind_some, rd_T54, getD_mid]
    refine ev_pos (by rw [← h1]; exact lt_mid _ _ _) ?_
    rw [next_mid _ _ _ hm, ← h1, set_mid]
    have := ih (pre ++ [y]) (qre ++ [cpI y]) qsuf (assoc_mid _ _ _) hm (by simp [h1]) (by simpa using h2)
    simpa [cpI] using this

theorem toIns (l : List S54) (h : l.length ≤ 1048576) : Ev (fun k => laws_toInstructionS.f k l) (l.map cpI) := by
  have := toIns_loop l l [] [] (List.replicate l.length z52) rfl (by simp only [maxLen]; omega) rfl (by simp)
  unfold laws_toInstructionS.f
  refine ev_pos (by omega) (ev_pos (by simp; omega) ?_)
  simpa using this

theorem eqIns_loop (l : List S52) : ∀ (suf pre : List S52), l = pre ++ suf → l.length ≤ maxLen → Ev (fun k => laws_eqInstructionS.l0 k l l (pre.length : Int)) true := by
  intro suf
  induction suf with
  | nil =>
    intro pre hl hm
    subst hl
    refine Ev.step (fun k => laws_eqInstructionS.l0.eq_2 ..) ?_
    refine ev_neg (not_lt_end _) (ev_const rfl)
  | cons y suf ih =>
    intro pre hl hm
    subst hl
    refine Ev.step (fun k => laws_eqInstructionS.l0.eq_2 ..) ?_
    refine ev_pos (lt_mid _ _ _) (ev_pos (by omega) (ev_pos (lt_mid _ _ _) ?_))
    simp only [laws_eqInstruction.f, if_true, Option.bind_some]
    rw [next_mid _ _ _ hm]
    exact ih (pre ++ [y]) (assoc_mid _ _ _) hm

theorem eqIns (l : List S52) (h : l.length ≤ maxLen) : Ev (fun k => laws_eqInstructionS.f k l l) true := by
  unfold laws_eqInstructionS.f
  exact ev_pos rfl (eqIns_loop l l [] rfl h)

/-- One instruction of a program of n instructions for c counters. -/
def OkI (n c : Int) (x : S52) : Prop :=
  0 ≤ x.f0 ∧ x.f0 ≤ 3 ∧ 0 ≤ x.f1 ∧ x.f1 < c ∧ 0 ≤ x.f2 ∧ x.f2 ≤ n ∧ (2 ≤ x.f0 → x.f1 = 0) ∧ (x.f0 ≠ 1 → x.f0 ≠ 2 → x.f2 = 0)
def AreI (l : List S52) (c : Int) : Prop := (∀ x ∈ l, OkI l.length c x) ∧ 1 ≤ c ∧ c ≤ 4 ∧ 1 ≤ l.length ∧ l.length ≤ 20
instance (n c : Int) (x : S52) : Decidable (OkI n c x) := by unfold OkI; infer_instance
instance (l : List S52) (c : Int) : Decidable (AreI l c) := by unfold AreI; infer_instance
/-- .. as the functions answer it. -/
def areI (l : List S52) (c : Int) : Bool := decide (AreI l c)

theorem ct_j1_no (x0 : List S52) (c : Int) (l : List S52) (n i a b d : Int) : Ev (fun k => spec_ctGood.j1 k x0 c l n i true a b d) false :=
  Ev.step (fun k => spec_ctGood.j1.eq_2 ..) (ev_pos rfl (ev_const rfl))
theorem ct_j1_bad (x0 : List S52) (c : Int) (l : List S52) (n i a b d : Int) (h : ¬ ((2 ≤ a → b = 0) ∧ (a ≠ 1 → a ≠ 2 → d = 0))) : Ev (fun k => spec_ctGood.j1 k x0 c l n i false a b d) false := by
  refine Ev.step (fun k => spec_ctGood.j1.eq_2 ..) (ev_neg (by simp) ?_)
  by_cases h1 : a ≥ 2
  · refine ev_pos h1 ?_
    by_cases h2 : b = 0
    · refine ev_pos h2 (ev_neg (by omega) (ev_neg (fun e => h ⟨fun _ => h2, fun _ h4 => absurd e h4⟩) (ev_neg (fun e => h ⟨fun _ => h2, fun _ _ => e⟩) (ev_const rfl))))
    · exact ev_neg h2 (ev_const rfl)
  · refine ev_neg h1 (ev_neg (fun e => h ⟨fun h2 => absurd h2 h1, fun h4 => absurd e h4⟩) (ev_neg (by omega) (ev_neg (fun e => h ⟨fun h2 => absurd h2 h1, fun _ _ => e⟩) (ev_const rfl))))
theorem ct_j1_yes (x0 : List S52) (c : Int) (l : List S52) (n i a b d : Int) (r : Bool) (h1 : 2 ≤ a → b = 0) (h2 : a ≠ 1 → a ≠ 2 → d = 0) (hr : Ev (fun k => spec_ctGood.l0 k x0 c l n (wrap64 (i + 1))) r) :
    Ev (fun k => spec_ctGood.j1 k x0 c l n i false a b d) r := by
  refine Ev.step (fun k => spec_ctGood.j1.eq_2 ..) (ev_neg (by simp) ?_)
  have tail : Ev (fun k => if a = 1 then spec_ctGood.l0 k x0 c l n (wrap64 (i + 1)) else if a = 2 then spec_ctGood.l0 k x0 c l n (wrap64 (i + 1)) else if d = 0 then spec_ctGood.l0 k x0 c l n (wrap64 (i + 1)) else some false) r := by
    by_cases e1 : a = 1
    · exact ev_pos e1 hr
    · refine ev_neg e1 ?_
      by_cases e2 : a = 2
      · exact ev_pos e2 hr
      · exact ev_neg e2 (ev_pos (h2 e1 e2) hr)
  by_cases h3 : a ≥ 2
  · exact ev_pos h3 (ev_pos (h1 h3) tail)
  · exact ev_neg h3 tail

/-- Where the number of counters is none, the answer is no, whatever the instructions. -/
theorem ct_loop_none (x0 : List S52) (c : Int) (hc : ¬ (1 ≤ c ∧ c ≤ 4)) (l : List S52) (hm : l.length ≤ maxLen) : ∀ (suf pre : List S52), l = pre ++ suf →
    Ev (fun k => spec_ctGood.l0 k x0 c l (l.length : Int) (pre.length : Int)) false := by
  intro suf
  induction suf with
  | nil =>
    intro pre hl
    subst hl
    refine Ev.step (fun k => spec_ctGood.l0.eq_2 ..) (ev_neg (not_lt_end _) ?_)
    simp only [in_f, Option.bind_some, decide_eq_true_eq]
    exact ev_neg hc (ev_const rfl)
  | cons y suf ih =>
    intro pre hl
    subst hl
    refine Ev.step (fun k => spec_ctGood.l0.eq_2 ..) (ev_pos (lt_mid _ _ _) (ev_pos (by omega) (ev_pos (lt_mid _ _ _) ?_)))
    simp only [in_f, Option.bind_some, decide_eq_true_eq, rd_T52, getD_mid]
    have next : ∀ b : Bool, Ev (fun k => spec_ctGood.j1 k x0 c (pre ++ y :: suf) ((pre ++ y :: suf).length : Int) (pre.length : Int) b y.f0 y.f1 y.f2) false := by
      intro b
      cases b with
      | true => exact ct_j1_no ..
      | false =>
        by_cases h : (2 ≤ y.f0 → y.f1 = 0) ∧ (y.f0 ≠ 1 → y.f0 ≠ 2 → y.f2 = 0)
        · refine ct_j1_yes _ _ _ _ _ _ _ _ _ h.1 h.2 ?_
          rw [next_mid _ _ _ hm]
          exact ih (pre ++ [y]) (assoc_mid _ _ _)
        · exact ct_j1_bad _ _ _ _ _ _ _ _ h
    by_cases h1 : 0 ≤ y.f0 ∧ y.f0 ≤ 3
    · refine ev_pos h1 ?_
      by_cases h2 : 0 ≤ y.f1 ∧ y.f1 ≤ wrap64 (c - 1)
      · exact ev_pos h2 (next _)
      · exact ev_neg h2 (next _)
    · exact ev_neg h1 (next _)

theorem ct_loop (x0 : List S52) (c : Int) (hc : 1 ≤ c ∧ c ≤ 4) (l : List S52) (hm : l.length ≤ maxLen) : ∀ (suf pre : List S52), l = pre ++ suf →
    Ev (fun k => spec_ctGood.l0 k x0 c l (l.length : Int) (pre.length : Int)) (decide ((∀ x ∈ suf, OkI x0.length c x) ∧ 1 ≤ x0.length ∧ x0.length ≤ 20)) := by
  intro suf
  induction suf with
  | nil =>
    intro pre hl
    subst hl
    refine Ev.step (fun k => spec_ctGood.l0.eq_2 ..) (ev_neg (not_lt_end _) ?_)
    simp only [in_f, Option.bind_some, decide_eq_true_eq]
    refine ev_pos hc (ev_const ?_)
    rw [Option.some.injEq, decide_eq_decide]
    constructor
    · intro h; exact ⟨fun x hx => absurd hx List.not_mem_nil, by omega, by omega⟩
    · intro h; omega
  | cons y suf ih =>
    intro pre hl
    subst hl
    refine Ev.step (fun k => spec_ctGood.l0.eq_2 ..) (ev_pos (lt_mid _ _ _) (ev_pos (by omega) (ev_pos (lt_mid _ _ _) ?_)))
    simp only [in_f, Option.bind_some, decide_eq_true_eq, rd_T52, getD_mid, wrap_id (x := c - 1) (by omega) (by omega)]
    by_cases ho : OkI x0.length c y
    · obtain ⟨o0, o1, o2, o3, o4, o5, o6, o7⟩ := ho
      refine ev_pos ⟨o0, o1⟩ (ev_pos ⟨o2, by omega⟩ ?_)
      rw [show (!decide (0 ≤ y.f2 ∧ y.f2 ≤ (x0.length : Int))) = false by simp; omega]
      refine ct_j1_yes _ _ _ _ _ _ _ _ _ o6 o7 ?_
      rw [next_mid _ _ _ hm]
      have := ih (pre ++ [y]) (assoc_mid _ _ _)
      have ho : OkI x0.length c y := ⟨o0, o1, o2, o3, o4, o5, o6, o7⟩
      simpa [ho] using this
    · have hR : decide ((∀ x ∈ y :: suf, OkI x0.length c x) ∧ 1 ≤ x0.length ∧ x0.length ≤ 20) = false := decide_eq_false (fun h => ho (h.1 y List.mem_cons_self))
      rw [hR]
      by_cases h1 : 0 ≤ y.f0 ∧ y.f0 ≤ 3
      · refine ev_pos h1 ?_
        by_cases h2 : 0 ≤ y.f1 ∧ y.f1 ≤ c - 1
        · refine ev_pos h2 ?_
          by_cases h3 : 0 ≤ y.f2 ∧ y.f2 ≤ (x0.length : Int)
          · rw [show (!decide (0 ≤ y.f2 ∧ y.f2 ≤ (x0.length : Int))) = false by simp; omega]
            exact ct_j1_bad _ _ _ _ _ _ _ _ (fun h4 => ho ⟨h1.1, h1.2, h2.1, by omega, h3.1, h3.2, h4.1, h4.2⟩)
          · rw [show (!decide (0 ≤ y.f2 ∧ y.f2 ≤ (x0.length : Int))) = true by simp; omega]
            exact ct_j1_no ..
        · exact ev_neg h2 (ct_j1_no ..)
      · exact ev_neg h1 (ct_j1_no ..)

theorem ctGood (l : List S52) (c : Int) (hm : l.length ≤ maxLen) : Ev (fun k => spec_ctGood.f k l c) (areI l c) := by
  unfold spec_ctGood.f areI
  by_cases hc : 1 ≤ c ∧ c ≤ 4
  · have := ct_loop l c hc l hm l [] rfl
    have e : AreI l c ↔ ((∀ x ∈ l, OkI l.length c x) ∧ 1 ≤ l.length ∧ l.length ≤ 20) := by
      unfold AreI
      exact ⟨fun h => ⟨h.1, h.2.2.2⟩, fun h => ⟨h.1, hc.1, hc.2, h.2⟩⟩
    rw [decide_eq_decide.2 e]
    exact this
  · have := ct_loop_none l c hc l hm l [] rfl
    rw [decide_eq_false (fun h : AreI l c => hc ⟨h.2.1, h.2.2.1⟩)]
    exact this

theorem usesC (a : Int) : impl_usesCounter.f a = some (decide (a = 0 ∨ a = 1)) := by
  unfold impl_usesCounter.f
  by_cases h : a = 0
  · rw [if_pos h]; simp [h]
  · rw [if_neg h]; simp [h, Bool.beq_eq_decide_eq]
theorem usesT (a : Int) : impl_usesTarget.f a = some (decide (a = 1 ∨ a = 2)) := by
  unfold impl_usesTarget.f
  by_cases h : a = 1
  · rw [if_pos h]; simp [h]
  · rw [if_neg h]; simp [h, Bool.beq_eq_decide_eq]

theorem im_j2_no (x0 : List S52) (c : Int) (l : List S52) (n i a b d : Int) : Ev (fun k => impl_AreInstructions.j2 k x0 c l n i true a b d) false :=
  Ev.step (fun k => impl_AreInstructions.j2.eq_2 ..) (ev_pos rfl (ev_const rfl))
theorem im_j2 (x0 : List S52) (c : Int) (l : List S52) (n i a b d : Int) (r : Bool) (ha : 0 ≤ a ∧ a ≤ 3) (hr : Ev (fun k => impl_AreInstructions.l0 k x0 c l n (wrap64 (i + 1))) r) :
    Ev (fun k => impl_AreInstructions.j2 k x0 c l n i false a b d) (decide ((2 ≤ a → b = 0) ∧ (a ≠ 1 → a ≠ 2 → d = 0)) && r) := by
  refine Ev.step (fun k => impl_AreInstructions.j2.eq_2 ..) (ev_neg (by simp) ?_)
  simp only [usesC, usesT, Option.bind_some, decide_eq_true_eq]
  by_cases h1 : a = 0 ∨ a = 1
  · refine ev_pos h1 ?_
    by_cases h2 : a = 1 ∨ a = 2
    · refine ev_pos h2 ?_
      rw [decide_eq_true (by omega)]
      simpa using hr
    · refine ev_neg h2 ?_
      by_cases h3 : d = 0
      · refine ev_pos h3 ?_
        rw [decide_eq_true (by omega)]
        simpa using hr
      · refine ev_neg h3 (ev_const ?_)
        rw [decide_eq_false (by omega)]; rfl
  · refine ev_neg h1 ?_
    by_cases h4 : b = 0
    · refine ev_pos h4 ?_
      by_cases h2 : a = 1 ∨ a = 2
      · refine ev_pos h2 ?_
        rw [decide_eq_true (by omega)]
        simpa using hr
      · refine ev_neg h2 ?_
        by_cases h3 : d = 0
        · refine ev_pos h3 ?_
          rw [decide_eq_true (by omega)]
          simpa using hr
        · refine ev_neg h3 (ev_const ?_)
          rw [decide_eq_false (by omega)]; rfl
    · refine ev_neg h4 (ev_const ?_)
      rw [decide_eq_false (by omega)]; rfl

theorem im_loop (x0 : List S52) (c : Int) (l : List S52) (hm : l.length ≤ maxLen) : ∀ (suf pre : List S52), l = pre ++ suf →
    Ev (fun k => impl_AreInstructions.l0 k x0 c l (l.length : Int) (pre.length : Int)) (decide (∀ x ∈ suf, OkI x0.length c x)) := by
  intro suf
  induction suf with
  | nil =>
    intro pre hl
    subst hl
    refine Ev.step (fun k => impl_AreInstructions.l0.eq_2 ..) (ev_neg (not_lt_end _) (ev_const (by simp)))
  | cons y suf ih =>
    intro pre hl
    subst hl
    refine Ev.step (fun k => impl_AreInstructions.l0.eq_2 ..) (ev_pos (lt_mid _ _ _) (ev_pos (by omega) (ev_pos (lt_mid _ _ _) ?_)))
    simp only [rd_T52, getD_mid]
    have no : ∀ {P : Prop}, ¬ P → (P → False) → True := fun _ _ => trivial
    by_cases h : 0 ≤ y.f0 ∧ y.f0 ≤ 3 ∧ 0 ≤ y.f1 ∧ y.f1 < c ∧ 0 ≤ y.f2 ∧ y.f2 ≤ x0.length
    · refine ev_neg (by omega) (ev_neg (by omega) (ev_neg (by omega) (ev_neg (by omega) (ev_neg (by omega) ?_))))
      rw [decide_eq_false (show ¬ y.f2 > (x0.length : Int) by omega)]
      have h2 := ih (pre ++ [y]) (assoc_mid _ _ _)
      rw [← next_mid _ _ _ hm] at h2
      have h3 := im_j2 x0 c (pre ++ y :: suf) ((pre ++ y :: suf).length : Int) (pre.length : Int) y.f0 y.f1 y.f2 _ ⟨h.1, h.2.1⟩ h2
      refine Eq.mp ?_ h3
      congr 1
      rw [Bool.eq_iff_iff]
      simp only [Bool.and_eq_true, decide_eq_true_eq, List.mem_cons, forall_eq_or_imp]
      constructor
      · rintro ⟨⟨a, b⟩, d⟩; exact ⟨⟨h.1, h.2.1, h.2.2.1, h.2.2.2.1, h.2.2.2.2.1, h.2.2.2.2.2, a, b⟩, d⟩
      · rintro ⟨⟨_, _, _, _, _, _, a, b⟩, d⟩; exact ⟨⟨a, b⟩, d⟩
    · have hR : decide (∀ x ∈ y :: suf, OkI x0.length c x) = false := decide_eq_false (by
        intro hh
        obtain ⟨a, b, d, e, f, g, _⟩ := hh y List.mem_cons_self
        exact h ⟨a, b, d, e, f, g⟩)
      rw [hR]
      by_cases h0 : y.f0 < 0
      · exact ev_pos h0 (im_j2_no ..)
      refine ev_neg h0 ?_
      by_cases h1 : y.f0 > 3
      · exact ev_pos h1 (im_j2_no ..)
      refine ev_neg h1 ?_
      by_cases h2 : y.f1 < 0
      · exact ev_pos h2 (im_j2_no ..)
      refine ev_neg h2 ?_
      by_cases h3 : y.f1 ≥ c
      · exact ev_pos h3 (im_j2_no ..)
      refine ev_neg h3 ?_
      by_cases h4 : y.f2 < 0
      · exact ev_pos h4 (im_j2_no ..)
      refine ev_neg h4 ?_
      rw [decide_eq_true (show y.f2 > (x0.length : Int) by omega)]
      exact im_j2_no ..

theorem implAre (l : List S52) (c : Int) (hm : l.length ≤ maxLen) : Ev (fun k => impl_AreInstructions.f k l c) (areI l c) := by
  unfold impl_AreInstructions.f areI
  have no : ∀ b, b = true → ¬ AreI l c → Ev (fun k => impl_AreInstructions.j0 k l c b) (decide (AreI l c)) := by
    intro b hb h
    rw [decide_eq_false h]
    exact Ev.step (fun k => impl_AreInstructions.j0.eq_2 ..) (ev_pos hb (ev_const rfl))
  by_cases h1 : c < 1
  · exact ev_pos h1 (no _ rfl (fun h => by have := h.2.1; omega))
  refine ev_neg h1 ?_
  by_cases h2 : c > 4
  · exact ev_pos h2 (no _ rfl (fun h => by have := h.2.2.1; omega))
  refine ev_neg h2 ?_
  by_cases h3 : (l.length : Int) < 1
  · exact ev_pos h3 (no _ rfl (fun h => by have := h.2.2.2.1; omega))
  refine ev_neg h3 ?_
  by_cases h4 : (l.length : Int) > 20
  · exact no _ (by simp; omega) (fun h => by have := h.2.2.2.2; omega)
  · rw [decide_eq_false h4]
    refine Ev.step (fun k => impl_AreInstructions.j0.eq_2 ..) (ev_neg (by simp) ?_)
    have := im_loop l c l hm l [] rfl
    have e : AreI l c ↔ (∀ x ∈ l, OkI l.length c x) := by
      unfold AreI
      exact ⟨fun h => h.1, fun h => ⟨h, by omega, by omega, by omega, by omega⟩⟩
    rw [decide_eq_decide.2 e]
    exact this

theorem szIns (l : List S54) (a : Int) (ha : 0 ≤ a ∧ a ≤ 1048576) (h : l.length ≤ maxLen) : laws_szInstructionS.f l a = some (if a - (l.length : Int) < 0 then -1 else a - (l.length : Int)) := by
  unfold laws_szInstructionS.f
  simp only [maxLen] at h
  rw [wrap_id (by omega) (by omega)]
  by_cases h1 : a - (l.length : Int) < 0
  · rw [if_pos h1, if_pos h1]
  · rw [if_neg h1, if_neg h1]
end Go.Proofs.YtbcphkblieeemaaDoor.A
