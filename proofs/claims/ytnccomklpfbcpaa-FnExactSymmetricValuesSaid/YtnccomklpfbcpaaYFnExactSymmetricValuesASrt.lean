/- Odd-even rounds on a row of bits, in plain lists: the sorting board of a table. -/
import Derived.Test.YtnccomklpfbcpaaYFnExactSymmetricValuesABo
namespace Go.Proofs.Ytnccomklpfbcpaa.A
open Go.RowKit Go.Proofs.YtnccomklpfbcpaaW.PrintWords Go.Proofs.YtnccomklpfbcpaaW.PrintLast Go.Proofs.YtnccomklpfbcpaaW.PrintMore Go.Proofs.Ytnccomklpfbcpaa.P Go.Proofs.Ytnccomklpfbcpaa.T
set_option linter.unusedVariables false
set_option linter.unusedSimpArgs false

/-- One round from place c on: the values alone. -/
def passV : Nat → Nat → List Int → List Int
  | 0, _, v => v
  | d + 1, c, v => if c + 1 < v.length then
      (if rd v ((c + 1 : Nat) : Int) < rd v (c : Int) then passV d (c + 2) ((v.set c 0).set (c + 1) 1) else passV d (c + 2) v)
    else v
/-- One round from place c on: values, entries, the row of cells. -/
def passL : Nat → Nat → List Int → List Int → List S72 → List Int × List Int × List S72
  | 0, _, v, e, r => (v, e, r)
  | d + 1, c, v, e, r => if c + 1 < v.length then
      (if rd v ((c + 1 : Nat) : Int) < rd v (c : Int) then passL d (c + 2) ((v.set c 0).set (c + 1) 1) ((e.set c (rd e ((c + 1 : Nat) : Int))).set (c + 1) (rd e (c : Int))) ((r.set c ⟨2, 0⟩).set (c + 1) ⟨1, 0⟩) else passL d (c + 2) v e r)
    else (v, e, r)
theorem passL_v : ∀ (d c : Nat) (v e : List Int) (r : List S72), (passL d c v e r).1 = passV d c v := by
  intro d
  induction d with
  | zero => intro c v e r; rfl
  | succ d ih =>
    intro c v e r
    unfold passL passV
    by_cases h : c + 1 < v.length
    · rw [if_pos h, if_pos h]
      by_cases h1 : rd v ((c + 1 : Nat) : Int) < rd v (c : Int)
      · rw [if_pos h1, if_pos h1]; exact ih ..
      · rw [if_neg h1, if_neg h1]; exact ih ..
    · rw [if_neg h, if_neg h]
theorem passL_len : ∀ (d c : Nat) (v e : List Int) (r : List S72), (passL d c v e r).1.length = v.length ∧ (passL d c v e r).2.1.length = e.length ∧ (passL d c v e r).2.2.length = r.length := by
  intro d
  induction d with
  | zero => intro c v e r; exact ⟨rfl, rfl, rfl⟩
  | succ d ih =>
    intro c v e r
    unfold passL
    by_cases h : c + 1 < v.length
    · rw [if_pos h]
      by_cases h1 : rd v ((c + 1 : Nat) : Int) < rd v (c : Int)
      · rw [if_pos h1]
        refine ⟨?_, ?_, ?_⟩
        · rw [(ih ..).1]; simp
        · rw [(ih ..).2.1]; simp
        · rw [(ih ..).2.2]; simp
      · rw [if_neg h1]; exact ih ..
    · rw [if_neg h]; exact ⟨rfl, rfl, rfl⟩
/-- Sorted from place i on. -/
def srtF : Nat → Nat → List Int → Bool
  | 0, _, _ => true
  | d + 1, i, v => if i + 1 < v.length then (if rd v ((i + 1 : Nat) : Int) < rd v (i : Int) then false else srtF d (i + 1) v) else true
def srtL (v : List Int) : Bool := srtF v.length 0 v
/-- Sorted after at most d rounds (at least one), the first one being round r. -/
def within : Nat → Nat → List Int → Bool
  | 0, _, _ => false
  | d + 1, r, v => srtL (passV v.length (r % 2) v) || within d (r + 1) (passV v.length (r % 2) v)
/-- All lists of n bits. -/
def bitsOf : Nat → List (List Int)
  | 0 => [[]]
  | n + 1 => (bitsOf n).flatMap fun l => [0 :: l, 1 :: l]
theorem mem_bitsOf : ∀ (n : Nat) (v : List Int), v.length = n → (∀ x ∈ v, x = 0 ∨ x = 1) → v ∈ bitsOf n := by
  intro n
  induction n with
  | zero => intro v h _; cases v with | nil => simp [bitsOf] | cons x v => simp at h
  | succ n ih =>
    intro v h hv
    cases v with
    | nil => simp at h
    | cons x v =>
      have h1 := ih v (by simpa using h) (fun y hy => hv y (List.mem_cons_of_mem _ hy))
      simp only [bitsOf, List.mem_flatMap]
      refine ⟨v, h1, ?_⟩
      cases hv x (List.mem_cons_self ..) with
      | inl e => subst e; simp
      | inr e => subst e; simp
theorem within1 : ∀ v ∈ bitsOf 1, within 9 0 v = true := by decide +kernel
theorem within2 : ∀ v ∈ bitsOf 2, within 9 0 v = true := by decide +kernel
theorem within4 : ∀ v ∈ bitsOf 4, within 9 0 v = true := by decide +kernel
theorem within8 : ∀ v ∈ bitsOf 8, within 9 0 v = true := by decide +kernel
theorem within_ok (v : List Int) (h : v.length = 1 ∨ v.length = 2 ∨ v.length = 4 ∨ v.length = 8) (hv : ∀ x ∈ v, x = 0 ∨ x = 1) : within 9 0 v = true := by
  rcases h with h | h | h | h
  · exact within1 v (mem_bitsOf 1 v h hv)
  · exact within2 v (mem_bitsOf 2 v h hv)
  · exact within4 v (mem_bitsOf 4 v h hv)
  · exact within8 v (mem_bitsOf 8 v h hv)
/-- Round after round until the values are sorted: rows, values, entries, cells. -/
def roundsL : Nat → Nat → List Int → List Int → List S72 → Nat × List Int × List Int × List S72
  | 0, r, v, e, cs => (r, v, e, cs)
  | d + 1, r, v, e, cs =>
    let p := passL v.length (r % 2) v e (List.replicate v.length ⟨0, 0⟩)
    if srtL p.1 then (r + 1, p.1, p.2.1, cs ++ p.2.2) else roundsL d (r + 1) p.1 p.2.1 (cs ++ p.2.2)

/-- The program's test on bits is the reference's. -/
theorem bit_gt (a b : Int) (ha : a = 0 ∨ a = 1) (hb : b = 0 ∨ b = 1) : (a = 1 ∧ b = 0) ↔ b < a := by omega
theorem set_bits (l : List Int) (c : Nat) (x : Int) (hx : x = 0 ∨ x = 1) (h : ∀ y ∈ l, y = 0 ∨ y = 1) : ∀ y ∈ l.set c x, y = 0 ∨ y = 1 := by
  intro y hy
  rcases List.mem_or_eq_of_mem_set hy with h1 | h1
  · exact h y h1
  · subst h1; exact hx
theorem passV_bits : ∀ (d c : Nat) (v : List Int), (∀ y ∈ v, y = 0 ∨ y = 1) → ∀ y ∈ passV d c v, y = 0 ∨ y = 1 := by
  intro d
  induction d with
  | zero => intro c v h; exact h
  | succ d ih =>
    intro c v h
    unfold passV
    by_cases h1 : c + 1 < v.length
    · rw [if_pos h1]
      by_cases h2 : rd v ((c + 1 : Nat) : Int) < rd v (c : Int)
      · rw [if_pos h2]; exact ih _ _ (set_bits _ _ _ (Or.inr rfl) (set_bits _ _ _ (Or.inl rfl) h))
      · rw [if_neg h2]; exact ih _ _ h
    · rw [if_neg h1]; exact h
theorem roundsL_sorted : ∀ (d r : Nat) (v e : List Int) (cs : List S72), within d r v = true → srtL (roundsL d r v e cs).2.1 = true ∧ (roundsL d r v e cs).1 ≤ r + d := by
  intro d
  induction d with
  | zero => intro r v e cs h; simp [within] at h
  | succ d ih =>
    intro r v e cs h
    simp only [roundsL, passL_v]
    simp only [within, Bool.or_eq_true] at h
    by_cases h1 : srtL (passV v.length (r % 2) v) = true
    · rw [if_pos h1]; exact ⟨h1, by omega⟩
    · rw [if_neg h1]
      have h2 := ih (r + 1) (passV v.length (r % 2) v) (passL v.length (r % 2) v e (List.replicate v.length ⟨0, 0⟩)).2.1 (cs ++ (passL v.length (r % 2) v e (List.replicate v.length ⟨0, 0⟩)).2.2) (h.resolve_left h1)
      exact ⟨h2.1, by omega⟩
/-- What the kinds of a sorting board are. -/
theorem passL_kinds : ∀ (d c : Nat) (v e : List Int) (r : List S72), (∀ x ∈ r, x.f0 = 0 ∨ x.f0 = 2 ∨ x.f0 = 1) → ∀ x ∈ (passL d c v e r).2.2, x.f0 = 0 ∨ x.f0 = 2 ∨ x.f0 = 1 := by
  intro d
  induction d with
  | zero => intro c v e r h; exact h
  | succ d ih =>
    intro c v e r h
    unfold passL
    by_cases h1 : c + 1 < v.length
    · rw [if_pos h1]
      by_cases h2 : rd v ((c + 1 : Nat) : Int) < rd v (c : Int)
      · rw [if_pos h2]
        refine ih _ _ _ _ ?_
        intro x hx
        rcases List.mem_or_eq_of_mem_set hx with h3 | h3
        · rcases List.mem_or_eq_of_mem_set h3 with h4 | h4
          · exact h x h4
          · subst h4; exact Or.inr (Or.inl rfl)
        · subst h3; exact Or.inr (Or.inr rfl)
      · rw [if_neg h2]; exact ih _ _ _ _ h
    · rw [if_neg h1]; exact h
theorem roundsL_kinds : ∀ (d r : Nat) (v e : List Int) (cs : List S72), (∀ x ∈ cs, x.f0 = 0 ∨ x.f0 = 2 ∨ x.f0 = 1) → ∀ x ∈ (roundsL d r v e cs).2.2.2, x.f0 = 0 ∨ x.f0 = 2 ∨ x.f0 = 1 := by
  intro d
  induction d with
  | zero => intro r v e cs h; exact h
  | succ d ih =>
    intro r v e cs h
    have h0 : ∀ x ∈ cs ++ (passL v.length (r % 2) v e (List.replicate v.length ⟨0, 0⟩)).2.2, x.f0 = 0 ∨ x.f0 = 2 ∨ x.f0 = 1 := by
      intro x hx
      rcases List.mem_append.1 hx with h1 | h1
      · exact h x h1
      · refine passL_kinds _ _ _ _ _ ?_ x h1
        intro y hy
        rw [(List.mem_replicate.1 hy).2]; exact Or.inl rfl
    simp only [roundsL]
    by_cases h1 : srtL (passL v.length (r % 2) v e (List.replicate v.length ⟨0, 0⟩)).1 = true
    · rw [if_pos h1]; exact h0
    · rw [if_neg h1]; exact ih _ _ _ _ h0
/-- The ramps of a board that has nothing but ramps. -/
theorem ramps_count : ∀ (l : List S72), (∀ x ∈ l, x.f0 = 0 ∨ x.f0 = 2 ∨ x.f0 = 1) → kindCount 1 l + kindCount 2 l = ((l.filter fun x => x.f0 ≠ 0).length : Int) := by
  intro l
  induction l with
  | nil => intro _; simp [kindCount]
  | cons y l ih =>
    intro h
    have h1 := ih (fun x hx => h x (List.mem_cons_of_mem _ hx))
    have h2 := h y (List.mem_cons_self ..)
    simp only [kindCount, List.filter_cons] at h1 ⊢
    rcases h2 with h2 | h2 | h2 <;> simp [h2] at h1 ⊢ <;> omega
end Go.Proofs.Ytnccomklpfbcpaa.A
