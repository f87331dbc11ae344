/- Breadth-first search in a finite graph whose nodes have numbered ways out: the list of nodes, the word to each, closed under steps. No program in sight. -/
import Derived.Test.YtadhbepoblllhaaAPump
namespace Go.Proofs.Ytadhbepoblllhaa.A
set_option linter.unusedVariables false
set_option linter.unusedSimpArgs false
set_option linter.unusedSectionVars false

theorem nodup_bound {α : Type} (code : α → Nat) (M : Nat) (S : List α) (hn : S.Nodup) (hc : ∀ x ∈ S, code x < M) (hi : ∀ x ∈ S, ∀ y ∈ S, code x = code y → x = y) : S.length ≤ M := by
  refine Nat.le_of_not_lt (fun hlt => ?_)
  obtain ⟨i, j, hij, hj, e⟩ := pigeon M (fun i => if h : i < S.length then code S[i] else 0) (by
    intro i hi
    have h : i < S.length := by omega
    simp only [h, dif_pos]
    exact hc _ (List.getElem_mem h))
  have h1 : i < S.length := by omega
  have h2 : j < S.length := by omega
  simp only [h1, h2, dif_pos] at e
  have := hi _ (List.getElem_mem h1) _ (List.getElem_mem h2) e
  have hne := List.pairwise_iff_getElem.mp hn i j h1 h2 hij
  exact hne this
section
variable {α : Type} [DecidableEq α]
/-- The ways out of one node, the rest of them, i the number of the next: nodes that are new are laid behind, with their words. -/
def rowGo (w : List Int) : Int → List α → List α × List (List Int) → List α × List (List Int)
  | _, [], p => p
  | i, t :: r, p => rowGo w (i + 1) r (if t ∈ p.1 then p else (p.1 ++ [t], p.2 ++ [w ++ [i]]))
def bfsN (succ : α → List α) (z : α) : Nat → Nat → List α × List (List Int) → List α × List (List Int)
  | 0, _, p => p
  | d + 1, i, p => if i < p.1.length then bfsN succ z d (i + 1) (rowGo (p.2.getD i []) 0 (succ (p.1.getD i z)) p) else p
def follow (succ : α → List α) : α → List Int → Option α
  | s, [] => some s
  | s, x :: w => if 0 ≤ x then ((succ s)[x.toNat]?).bind fun t => follow succ t w else none
theorem follow_snoc (succ : α → List α) (i : Nat) : ∀ (w : List Int) (s u t : α), follow succ s w = some u → (succ u)[i]? = some t → follow succ s (w ++ [(i : Int)]) = some t := by
  intro w
  induction w with
  | nil => intro s u t h1 h2; simp only [follow, Option.some.injEq] at h1; subst h1; simp [follow, h2]
  | cons x w ih =>
    intro s u t h1 h2
    simp only [follow, List.cons_append] at h1 ⊢
    split at h1
    · rename_i hx
      rw [if_pos hx]
      obtain ⟨v, hv, h1⟩ := Option.bind_eq_some_iff.mp h1
      rw [hv, Option.bind_some]
      exact ih v u t h1 h2
    · simp at h1
/-- What holds of the list and the words at every time. -/
structure BInv (succ : α → List α) (V : α → Prop) (s0 : α) (p : List α × List (List Int)) : Prop where
  nodup : p.1.Nodup
  valid : ∀ x ∈ p.1, V x
  len : p.2.length = p.1.length
  way : ∀ (j : Nat) (x : α) (w : List Int), p.1[j]? = some x → p.2[j]? = some w → follow succ s0 w = some x ∧ w.length ≤ j
  start : p.1[0]? = some s0
theorem BInv.push {succ : α → List α} {V : α → Prop} {s0 : α} {p : List α × List (List Int)} (h : BInv succ V s0 p) {t : α} {w : List Int} (ht : t ∉ p.1) (hv : V t) (hw : follow succ s0 w = some t) (hl : w.length ≤ p.1.length) : BInv succ V s0 (p.1 ++ [t], p.2 ++ [w]) := by
  refine ⟨?_, ?_, by simp [h.len], ?_, ?_⟩
  · exact List.nodup_append.2 ⟨h.nodup, by simp, fun a ha b hb e => by simp at hb; subst hb; subst e; exact ht ha⟩
  · intro x hx
    rcases List.mem_append.1 hx with hx | hx
    · exact h.valid x hx
    · simp at hx; subst hx; exact hv
  · intro j x w' hx hw'
    by_cases hj : j < p.1.length
    · simp only [List.getElem?_append_left hj] at hx
      simp only [List.getElem?_append_left (show j < p.2.length by rw [h.len]; exact hj)] at hw'
      exact h.way j x w' hx hw'
    · have hj2 : j = p.1.length := by
        have := (List.getElem?_eq_some_iff.1 hx).1
        simp at this; omega
      subst hj2
      simp only [List.getElem?_append_right (Nat.le_refl _), Nat.sub_self, List.getElem?_cons_zero, Option.some.injEq] at hx
      rw [← h.len] at hw'
      simp only [List.getElem?_append_right (Nat.le_refl _), Nat.sub_self, List.getElem?_cons_zero, Option.some.injEq] at hw'
      subst hx; subst hw'
      exact ⟨hw, hl⟩
  · have h0 := h.start
    have : 0 < p.1.length := (List.getElem?_eq_some_iff.1 h0).1
    simp only [List.getElem?_append_left this]
    exact h0
theorem rowGo_grows (w : List Int) : ∀ (r : List α) (i : Int) (p : List α × List (List Int)), ∃ a b, rowGo w i r p = (p.1 ++ a, p.2 ++ b) := by
  intro r
  induction r with
  | nil => intro i p; exact ⟨[], [], by simp [rowGo]⟩
  | cons t r ih =>
    intro i p
    rw [rowGo]
    split
    · exact ih _ _
    · obtain ⟨a, b, e⟩ := ih (i + 1) (p.1 ++ [t], p.2 ++ [w ++ [i]])
      exact ⟨t :: a, (w ++ [i]) :: b, by rw [e]; simp⟩
theorem rowGo_mem (w : List Int) : ∀ (r : List α) (i : Int) (p : List α × List (List Int)), ∀ t ∈ r, t ∈ (rowGo w i r p).1 := by
  intro r
  induction r with
  | nil => intro i p t ht; simp at ht
  | cons y r ih =>
    intro i p t ht
    rw [rowGo]
    rcases List.mem_cons.1 ht with rfl | ht
    · obtain ⟨a, b, e⟩ := rowGo_grows w r (i + 1) (if t ∈ p.1 then p else (p.1 ++ [t], p.2 ++ [w ++ [i]]))
      rw [e]
      split
      · rename_i h; exact List.mem_append_left _ h
      · exact List.mem_append_left _ (by simp)
    · exact ih _ _ t ht
theorem rowGo_inv {succ : α → List α} {V : α → Prop} {s0 u : α} {w : List Int} (hu : follow succ s0 w = some u) (hV : ∀ t ∈ succ u, V t) : ∀ (suf pre : List α) (p : List α × List (List Int)), succ u = pre ++ suf → w.length < p.1.length → BInv succ V s0 p → BInv succ V s0 (rowGo w (pre.length : Int) suf p) := by
  intro suf
  induction suf with
  | nil => intro pre p _ _ h; exact h
  | cons t suf ih =>
    intro pre p e hl h
    rw [rowGo]
    have e2 : succ u = (pre ++ [t]) ++ suf := by rw [e]; simp
    have hlen : ((pre ++ [t]).length : Int) = (pre.length : Int) + 1 := by simp
    have key := ih (pre ++ [t]) (if t ∈ p.1 then p else (p.1 ++ [t], p.2 ++ [w ++ [(pre.length : Int)]])) e2 (by split <;> (try simp) <;> omega) (by
      split
      · exact h
      · rename_i hn
        exact h.push hn (hV t (by rw [e]; simp)) (follow_snoc succ pre.length w s0 u t hu (by rw [e]; simp)) (by simp; omega))
    rw [hlen] at key
    exact key
/-- The nodes before i have all their ways out in the list. -/
def Closed (succ : α → List α) (i : Nat) (p : List α × List (List Int)) : Prop := ∀ (j : Nat) (x : α), j < i → p.1[j]? = some x → ∀ t ∈ succ x, t ∈ p.1
theorem bfs_step {succ : α → List α} {V : α → Prop} {s0 : α} (z : α) (hV : ∀ x, V x → ∀ t ∈ succ x, V t) {i : Nat} {p : List α × List (List Int)} (h : BInv succ V s0 p) (hc : Closed succ i p) (hi : i < p.1.length) :
    BInv succ V s0 (rowGo (p.2.getD i []) 0 (succ (p.1.getD i z)) p) ∧ Closed succ (i + 1) (rowGo (p.2.getD i []) 0 (succ (p.1.getD i z)) p) := by
  have hi2 : i < p.2.length := by rw [h.len]; exact hi
  have e1 : p.1[i]? = some (p.1.getD i z) := by simp [List.getD_eq_getElem?_getD, hi]
  have e2 : p.2[i]? = some (p.2.getD i []) := by simp [List.getD_eq_getElem?_getD, hi2]
  obtain ⟨w1, w2⟩ := h.way i _ _ e1 e2
  have hvx := h.valid _ (List.mem_of_getElem? e1)
  refine ⟨rowGo_inv w1 (hV _ hvx) _ [] p rfl (by omega) h, ?_⟩
  obtain ⟨a, b, e⟩ := rowGo_grows (p.2.getD i []) (succ (p.1.getD i z)) 0 p
  intro j x hj hx t ht
  by_cases hji : j = i
  · subst hji
    have : x = p.1.getD j z := by
      rw [e] at hx
      simp only [List.getElem?_append_left hi] at hx
      rw [e1] at hx; exact (Option.some.inj hx).symm
    subst this
    exact rowGo_mem _ _ _ _ t ht
  · have hji2 : j < i := by omega
    rw [e] at hx ⊢
    simp only [List.getElem?_append_left (show j < p.1.length by omega)] at hx
    exact List.mem_append_left _ (hc j x hji2 hx t ht)
theorem bfs_end {succ : α → List α} {V : α → Prop} {s0 : α} (z : α) (code : α → Nat) (M : Nat) (hV : ∀ x, V x → ∀ t ∈ succ x, V t) (hM : ∀ x, V x → code x < M) (hI : ∀ x y, V x → V y → code x = code y → x = y) :
    ∀ (d i : Nat) (p : List α × List (List Int)), i + d = M → BInv succ V s0 p → Closed succ i p → BInv succ V s0 (bfsN succ z d i p) ∧ Closed succ (bfsN succ z d i p).1.length (bfsN succ z d i p) := by
  intro d
  induction d with
  | zero =>
    intro i p hi h hc
    have := nodup_bound code M p.1 h.nodup (fun x hx => hM x (h.valid x hx)) (fun x hx y hy => hI x y (h.valid x hx) (h.valid y hy))
    exact ⟨h, fun j x hj hx => hc j x (by simp only [bfsN] at hj; omega) hx⟩
  | succ d ih =>
    intro i p hi h hc
    rw [bfsN]
    split
    · rename_i hlt
      obtain ⟨h2, c2⟩ := bfs_step z hV h hc hlt
      exact ih (i + 1) _ (by omega) h2 c2
    · rename_i hge
      exact ⟨h, fun j x hj hx => hc j x (by omega) hx⟩
theorem BInv.one {succ : α → List α} {V : α → Prop} {s0 : α} (h : V s0) : BInv succ V s0 ([s0], [[]]) := by
  refine ⟨by simp, by simpa using h, rfl, ?_, rfl⟩
  intro j x w hx hw
  have : j = 0 := by
    have := (List.getElem?_eq_some_iff.1 hx).1
    simp at this; omega
  subst this
  simp at hx hw
  subst hx; subst hw
  exact ⟨rfl, Nat.le_refl _⟩
/-- All that follows from the start is in the list, in the end. -/
theorem closed_follow {succ : α → List α} {p : List α × List (List Int)} (hc : Closed succ p.1.length p) : ∀ (w : List Int) (s t : α), s ∈ p.1 → follow succ s w = some t → t ∈ p.1 := by
  intro w
  induction w with
  | nil => intro s t hs h; simp only [follow, Option.some.injEq] at h; subst h; exact hs
  | cons x w ih =>
    intro s t hs h
    simp only [follow] at h
    split at h
    · obtain ⟨v, hv, h⟩ := Option.bind_eq_some_iff.mp h
      obtain ⟨j, hj⟩ := List.getElem?_of_mem hs
      exact ih v t (hc j s (List.getElem?_eq_some_iff.1 hj).1 hj v (List.mem_of_getElem? hv)) h
    · simp at h
end
end Go.Proofs.Ytadhbepoblllhaa.A
