/- Walks in a finite graph, and that long ones have a round in them. No program in sight. -/
import Derived.Test.YtadhbepoblllhaaT
namespace Go.Proofs.Ytadhbepoblllhaa.A
set_option linter.unusedVariables false

/-- More numbers than places: two are alike. -/
theorem pigeon : ∀ (n : Nat) (f : Nat → Nat), (∀ i, i ≤ n → f i < n) → ∃ i j, i < j ∧ j ≤ n ∧ f i = f j := by
  intro n
  induction n with
  | zero => intro f h; have := h 0 (Nat.le_refl 0); omega
  | succ n ih =>
    intro f h
    by_cases hc : ∃ i, i ≤ n ∧ f i = f (n + 1)
    · obtain ⟨i, hi, e⟩ := hc
      exact ⟨i, n + 1, by omega, by omega, e⟩
    · have hne : ∀ i, i ≤ n → f i ≠ f (n + 1) := fun i hi e => hc ⟨i, hi, e⟩
      have hl := h (n + 1) (Nat.le_refl _)
      obtain ⟨i, j, hij, hj, e⟩ := ih (fun i => if f i = n then f (n + 1) else f i) (by
        intro i hi
        have h1 := h i (by omega)
        have h2 := hne i hi
        show (if f i = n then f (n + 1) else f i) < n
        split <;> omega)
      refine ⟨i, j, hij, by omega, ?_⟩
      have h1 := hne i (by omega)
      have h2 := hne j hj
      split at e <;> split at e <;> omega
/-- A walk of so many steps. -/
def Walk (E : Nat → Nat → Prop) : Nat → Nat → Nat → Prop
  | 0, s, t => s = t
  | m + 1, s, t => ∃ u, E s u ∧ Walk E m u t
theorem Walk.trans {E : Nat → Nat → Prop} : ∀ {m k s u t : Nat}, Walk E m s u → Walk E k u t → Walk E (m + k) s t := by
  intro m
  induction m with
  | zero => intro k s u t h1 h2; cases h1; rw [Nat.zero_add]; exact h2
  | succ m ih =>
    intro k s u t h1 h2
    obtain ⟨v, hv, h1⟩ := h1
    rw [show m + 1 + k = (m + k) + 1 by omega]
    exact ⟨v, hv, ih h1 h2⟩
theorem Walk.last {E : Nat → Nat → Prop} {m s t : Nat} : Walk E (m + 1) s t ↔ ∃ u, Walk E m s u ∧ E u t := by
  constructor
  · intro h
    induction m generalizing s with
    | zero => obtain ⟨u, hu, h⟩ := h; cases h; exact ⟨s, rfl, hu⟩
    | succ m ih => obtain ⟨u, hu, h⟩ := h; obtain ⟨v, h1, h2⟩ := ih h; exact ⟨v, ⟨u, hu, h1⟩, h2⟩
  · rintro ⟨u, h1, h2⟩
    exact Walk.trans h1 (show Walk E 1 u t from ⟨t, h2, rfl⟩)
theorem walk_fun {E : Nat → Nat → Prop} : ∀ {m s t : Nat}, Walk E m s t → ∃ v : Nat → Nat, v 0 = s ∧ v m = t ∧ ∀ i, i < m → E (v i) (v (i + 1)) := by
  intro m
  induction m with
  | zero => intro s t h; exact ⟨fun _ => s, rfl, h, fun i hi => by omega⟩
  | succ m ih =>
    intro s t h
    obtain ⟨u, hu, h⟩ := h
    obtain ⟨v, h0, h1, h2⟩ := ih h
    refine ⟨fun i => match i with | 0 => s | i + 1 => v i, rfl, h1, ?_⟩
    intro i hi
    cases i with
    | zero => show E s (v 0); rw [h0]; exact hu
    | succ i => exact h2 i (by omega)
theorem fun_walk {E : Nat → Nat → Prop} (v : Nat → Nat) : ∀ (k a : Nat), (∀ i, a ≤ i → i < a + k → E (v i) (v (i + 1))) → Walk E k (v a) (v (a + k)) := by
  intro k
  induction k with
  | zero => intro a _; rfl
  | succ k ih =>
    intro a h
    refine ⟨v (a + 1), h a (Nat.le_refl _) (by omega), ?_⟩
    have := ih (a + 1) (fun i h1 h2 => h i (by omega) (by omega))
    rwa [show a + 1 + k = a + (k + 1) by omega] at this
/-- A walk of as many steps as there are places goes a round. -/
theorem walk_round {E : Nat → Nat → Prop} {n m s t : Nat} (hE : ∀ x y, E x y → y < n) (hs : s < n) (h : Walk E m s t) (hm : n ≤ m) :
    ∃ i c r u, i + c + r = m ∧ 1 ≤ c ∧ i + c ≤ n ∧ Walk E i s u ∧ Walk E c u u ∧ Walk E r u t := by
  obtain ⟨v, h0, h1, h2⟩ := walk_fun h
  obtain ⟨i, j, hij, hj, e⟩ := pigeon n v (by
    intro i hi
    cases i with
    | zero => rw [h0]; exact hs
    | succ i => exact hE _ _ (h2 i (by omega)))
  refine ⟨i, j - i, m - j, v i, by omega, by omega, by omega, ?_, ?_, ?_⟩
  · have := fun_walk v i 0 (fun k _ hk => h2 k (by omega))
    rw [Nat.zero_add, h0] at this
    exact this
  · have := fun_walk v (j - i) i (fun k _ hk => h2 k (by omega))
    rw [show i + (j - i) = j by omega, ← e] at this
    exact this
  · have := fun_walk v (m - j) j (fun k _ hk => h2 k (by omega))
    rw [show j + (m - j) = m by omega, h1, ← e] at this
    exact this
/-- Some word of m letters is accepted. -/
def AccL (E : Nat → Nat → Prop) (F : Nat → Prop) (m : Nat) : Prop := ∃ f, F f ∧ Walk E m 0 f
theorem acc_more {E : Nat → Nat → Prop} {F : Nat → Prop} {n m : Nat} (hn : 0 < n) (hE : ∀ x y, E x y → y < n) (h : AccL E F m) (hm : n ≤ m) : ∃ k, n + 1 ≤ k ∧ AccL E F k := by
  obtain ⟨f, hf, h⟩ := h
  obtain ⟨i, c, r, u, e, hc, _, h1, h2, h3⟩ := walk_round hE hn h hm
  exact ⟨i + (c + (c + r)), by omega, f, hf, h1.trans (h2.trans (h2.trans h3))⟩
theorem acc_less {E : Nat → Nat → Prop} {F : Nat → Prop} {n : Nat} (hn : 0 < n) (hE : ∀ x y, E x y → y < n) : ∀ (m : Nat), n ≤ m → AccL E F m → ∃ k, n ≤ k ∧ k < 2 * n ∧ AccL E F k := by
  intro m
  induction m using Nat.strongRecOn with
  | _ m ih =>
    intro hm h
    by_cases h2 : m < 2 * n
    · exact ⟨m, hm, h2, h⟩
    · obtain ⟨f, hf, h⟩ := h
      obtain ⟨i, c, r, u, e, hc, hic, h1, h2, h3⟩ := walk_round hE hn h hm
      exact ih (i + r) (by omega) (by omega) ⟨f, hf, h1.trans h3⟩
end Go.Proofs.Ytadhbepoblllhaa.A
