/- The words of given states, in the states' order: what the program and the reference put together, in plain Lean. -/
import Derived.Test.YtkfedkckakegjaaYFnExactStateWordsPx19
import Derived.Test.YtkfedkckakegjaaYFnExactStateWordsASort
import Derived.Test.YtkfedkckakegjaaYFnExactStateWordsAFind
namespace Go.Proofs.Ytkfedkckakegjaa.A
open Go.RowKit Go.Proofs.YtkfedkckakegjaaW.PrintWords Go.Proofs.YtkfedkckakegjaaW.PrintLast Go.Proofs.YtkfedkckakegjaaW.PrintMore Go.Proofs.Ytkfedkckakegjaa.P Go.Proofs.Ytkfedkckakegjaa.T
set_option linter.unusedVariables false
set_option linter.unusedSimpArgs false
/-- The words of a state. -/
def hitsL : List Int → List (List Int) → Int → List (List Int)
  | y :: S, x :: X, s => if y = s then x :: hitsL S X s else hitsL S X s
  | _, _, _ => []
theorem hitsL_none : ∀ (S : List Int) (X : List (List Int)) (s : Int), s ∉ S → hitsL S X s = [] := by
  intro S
  induction S with
  | nil => intro X s _; cases X <;> rfl
  | cons y S ih =>
    intro X s h
    cases X with
    | nil => rfl
    | cons x X =>
      rw [hitsL, if_neg (fun e => h (by rw [e]; exact List.mem_cons_self))]
      exact ih X s (fun hm => h (List.mem_cons_of_mem _ hm))
theorem hitsL_one : ∀ (S : List Int) (X : List (List Int)) (s : Int) (i : Nat), S.Nodup → X.length = S.length → S[i]? = some s → hitsL S X s = [X.getD i []] := by
  intro S
  induction S with
  | nil => intro X s i _ _ h; simp at h
  | cons y S ih =>
    intro X s i hn hl h
    have hn' := List.nodup_cons.1 hn
    cases X with
    | nil => simp at hl
    | cons x X =>
      cases i with
      | zero =>
        obtain rfl : y = s := by simpa using h
        rw [hitsL, if_pos rfl, hitsL_none S X y hn'.1]
        rfl
      | succ i =>
        have h' : S[i]? = some s := by simpa using h
        rw [hitsL, if_neg (fun e => hn'.1 (by rw [e]; exact List.mem_of_getElem? h')), ih X s i hn'.2 (by simpa using hl) h']
        rfl
theorem hitsL_len (b : Nat) : ∀ (S : List Int) (X : List (List Int)) (s : Int), (∀ x ∈ X, x.length ≤ b) → ∀ x ∈ hitsL S X s, x.length ≤ b := by
  intro S
  induction S with
  | nil => intro X s _ x hx; cases X <;> simp [hitsL] at hx
  | cons y S ih =>
    intro X s h x hx
    cases X with
    | nil => simp [hitsL] at hx
    | cons z X =>
      rw [hitsL] at hx
      have hX : ∀ x ∈ X, x.length ≤ b := fun x hx => h x (List.mem_cons_of_mem _ hx)
      by_cases e : y = s
      · rw [if_pos e] at hx
        rcases List.mem_cons.1 hx with rfl | hx
        · exact h _ List.mem_cons_self
        · exact ih X s hX x hx
      · rw [if_neg e] at hx
        exact ih X s hX x hx
/-- .. of states s, s + 1, .. (d of them), as the program puts them together. -/
def allHits (S : List Int) (X : List (List Int)) (l : List Int) : List (List Int) := l.flatMap (hitsL S X)
theorem iota_mem : ∀ (n : Nat) (m z : Int), z ∈ iota m n ↔ m ≤ z ∧ z < m + n := by
  intro n
  induction n with
  | zero => intro m z; simp [iota]
  | succ n ih => intro m z; rw [iota, List.mem_cons, ih]; omega
theorem iota_sorted : ∀ (n : Nat) (m : Int), (iota m n).Pairwise (· < ·) := by
  intro n
  induction n with
  | zero => intro m; exact List.Pairwise.nil
  | succ n ih => intro m; exact List.pairwise_cons.2 ⟨fun z hz => by have := (iota_mem n (m + 1) z).1 hz; omega, ih (m + 1)⟩
theorem allHits_filter (S : List Int) (X : List (List Int)) : ∀ l : List Int, allHits S X (l.filter (fun s => decide (s ∈ S))) = allHits S X l := by
  intro l
  induction l with
  | nil => rfl
  | cons s l ih =>
    by_cases h : s ∈ S
    · rw [List.filter_cons_of_pos (by simpa using h)]
      simp only [allHits, List.flatMap_cons] at ih ⊢
      rw [ih]
    · rw [List.filter_cons_of_neg (by simpa using h), ih]
      simp only [allHits, List.flatMap_cons, hitsL_none S X s h, List.nil_append]
/-- The states, sorted, are those of 0, 1, .. that are among them. -/
theorem sort_iota {S : List Int} {n : Nat} (h : ∀ s ∈ S, 0 ≤ s ∧ s < (n : Int)) : sortL S = (iota 0 n).filter (fun s => decide (s ∈ S)) := by
  obtain ⟨h1, h2⟩ := sortL_spec S [] List.Pairwise.nil
  refine strict_eq _ _ h1 ((iota_sorted n 0).sublist List.filter_sublist) (fun z => ?_)
  rw [show (z ∈ sortL S) = (z ∈ S.foldl (fun acc x => putL x acc) []) from rfl, h2, List.mem_filter, iota_mem]
  simp only [decide_eq_true_eq, List.not_mem_nil, or_false]
  constructor
  · intro hz
    have := h z hz
    exact ⟨by omega, hz⟩
  · exact fun hz => hz.2
theorem allHits_len (b : Nat) (S : List Int) (X : List (List Int)) (l : List Int) (h : ∀ x ∈ X, x.length ≤ b) : ∀ x ∈ allHits S X l, x.length ≤ b := by
  intro x hx
  obtain ⟨s, _, hs⟩ := List.mem_flatMap.1 hx
  exact hitsL_len b S X s h x hs
theorem hitsL_one_le {S : List Int} {X : List (List Int)} (hn : S.Nodup) (hl : X.length = S.length) (s : Int) : (hitsL S X s).length ≤ 1 := by
  by_cases h : s ∈ S
  · obtain ⟨i, hi⟩ := List.mem_iff_getElem?.1 h
    rw [hitsL_one S X s i hn hl hi]
    simp
  · rw [hitsL_none S X s h]; simp
theorem allHits_count {S : List Int} {X : List (List Int)} (hn : S.Nodup) (hl : X.length = S.length) : ∀ l : List Int, (allHits S X l).length ≤ l.length := by
  intro l
  induction l with
  | nil => exact Nat.le_refl _
  | cons s l ih =>
    have := hitsL_one_le hn hl s
    simp only [allHits, List.flatMap_cons, List.length_append, List.length_cons] at ih ⊢
    omega
/-- slices.Index: the first place, or -1. -/
theorem indexAt_loop (s : Int) (l : List Int) (hl : l.length ≤ maxLen) : ∀ (suf pre : List Int), l = pre ++ suf → ∃ r : Int, Ev (fun k => slices_Index_int_int.l0 k l s (l.length : Int) (pre.length : Int)) r ∧ ((s ∉ suf ∧ r = -1) ∨ ∃ i : Nat, r = (i : Int) ∧ l[i]? = some s) := by
  intro suf
  induction suf with
  | nil =>
    intro pre h
    subst h
    exact ⟨-1, Ev.step (fun k => slices_Index_int_int.l0.eq_2 ..) (ev_neg (by simp) (ev_const rfl)), .inl ⟨by simp, rfl⟩⟩
  | cons y suf ih =>
    intro pre h
    subst h
    by_cases e : s = y
    · refine ⟨(pre.length : Int), Ev.step (fun k => slices_Index_int_int.l0.eq_2 ..) (ev_pos (lt_mid _ _ _) (ev_pos (by omega) (ev_pos (lt_mid _ _ _) ?_))), .inr ⟨pre.length, rfl, by simp [e]⟩⟩
      rw [rd_mid]
      exact ev_pos e (ev_const rfl)
    · obtain ⟨r, hr, h2⟩ := ih (pre ++ [y]) (assoc_mid _ _ _)
      refine ⟨r, Ev.step (fun k => slices_Index_int_int.l0.eq_2 ..) (ev_pos (lt_mid _ _ _) (ev_pos (by omega) (ev_pos (lt_mid _ _ _) ?_))), ?_⟩
      · rw [rd_mid, next_mid pre y suf hl]
        exact ev_neg e hr
      · rcases h2 with ⟨h2, e2⟩ | h2
        · exact .inl ⟨fun hm => by exact (List.mem_cons.1 hm).elim e h2, e2⟩
        · exact .inr h2
theorem index_at (s : Int) (l : List Int) (hl : l.length ≤ maxLen) : ∃ r : Int, Ev (fun k => slices_Index_int_int.f k l s) r ∧ ((s ∉ l ∧ r = -1) ∨ ∃ i : Nat, r = (i : Int) ∧ l[i]? = some s) := indexAt_loop s l hl l [] rfl
end Go.Proofs.Ytkfedkckakegjaa.A
