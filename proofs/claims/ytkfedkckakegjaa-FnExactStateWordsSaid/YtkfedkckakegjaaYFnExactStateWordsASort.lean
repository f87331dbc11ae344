/- Sorting: the library's insertion sort and the reference's way of putting in come to the same list. -/
import Derived.Test.YtkfedkckakegjaaYFnExactStateWordsPx59
import Derived.Test.YtkfedkckakegjaaYFnExactStateWordsPx58
import Derived.Test.YtkfedkckakegjaaYFnExactStateWordsABase
namespace Go.Proofs.Ytkfedkckakegjaa.A
open Go.RowKit Go.Proofs.YtkfedkckakegjaaW.PrintWords Go.Proofs.YtkfedkckakegjaaW.PrintLast Go.Proofs.YtkfedkckakegjaaW.PrintMore Go.Proofs.Ytkfedkckakegjaa.P Go.Proofs.Ytkfedkckakegjaa.T
set_option linter.unusedVariables false
set_option linter.unusedSimpArgs false
theorem less (x y : Int) : cmp_Less_int.f x y = some (decide (x < y)) := by simp [cmp_Less_int.f, cmp_isNaN_int.f]
theorem strict_eq : ∀ (a b : List Int), a.Pairwise (· < ·) → b.Pairwise (· < ·) → (∀ x, x ∈ a ↔ x ∈ b) → a = b := by
  intro a
  induction a with
  | nil =>
    intro b _ _ h
    cases b with
    | nil => rfl
    | cons y b => exact absurd ((h y).2 List.mem_cons_self) (by simp)
  | cons x a ih =>
    intro b ha hb h
    cases b with
    | nil => exact absurd ((h x).1 List.mem_cons_self) (by simp)
    | cons y b =>
      have ha1 := List.pairwise_cons.1 ha
      have hb1 := List.pairwise_cons.1 hb
      have hxy : x = y := by
        have h1 := (h x).1 List.mem_cons_self
        have h2 := (h y).2 List.mem_cons_self
        rcases List.mem_cons.1 h1 with e | h1
        · exact e
        · rcases List.mem_cons.1 h2 with e | h2
          · exact e.symm
          · have := hb1.1 x h1
            have := ha1.1 y h2
            omega
      subst hxy
      rw [ih b ha1.2 hb1.2 (fun z => ?_)]
      have hz := h z
      simp only [List.mem_cons] at hz
      constructor
      · intro hm
        rcases hz.1 (.inr hm) with e | h2
        · subst e; exact absurd (ha1.1 z hm) (by omega)
        · exact h2
      · intro hm
        rcases hz.2 (.inr hm) with e | h2
        · subst e; exact absurd (hb1.1 z hm) (by omega)
        · exact h2
section
variable {n : Int}
theorem isort_in (C : List Int) (hn : n ≤ 1000) : ∀ (d : Nat) (A : List Int) (y : Int) (B : List Int), A.length = d → (A ++ B).Pairwise (· ≤ ·) → (∀ b ∈ B, y < b) → (A ++ y :: (B ++ C)).length ≤ 1000 →
    ∃ D : List Int, D.Perm (A ++ y :: B) ∧ D.Pairwise (· ≤ ·) ∧ ∀ (i : Int) (R : List Int), 0 ≤ i → i ≤ 1000 → Ev (fun k => slices_insertionSortOrdered_int.l0 k (D ++ C) 0 n (i + 1)) R → Ev (fun k => slices_insertionSortOrdered_int.l1 k (A ++ y :: (B ++ C)) 0 n i (A.length : Int)) R := by
  intro d
  induction d with
  | zero =>
    intro A y B hA hs hy hl
    obtain rfl : A = [] := List.length_eq_zero_iff.1 hA
    refine ⟨y :: B, List.Perm.refl _, List.pairwise_cons.2 ⟨fun b hb => Int.le_of_lt (hy b hb), by simpa using hs⟩, fun i R h0 h1 h => ?_⟩
    refine Ev.step (fun k => slices_insertionSortOrdered_int.l1.eq_2 ..) (ev_neg (by simp) ?_)
    rw [wrap_id (x := i + 1) (by omega) (by omega)]
    exact h
  | succ d ih =>
    intro A y B hA hs hy hl
    obtain ⟨A', a, rfl⟩ : ∃ A' a, A = A' ++ [a] := by
      rcases List.eq_nil_or_concat A with rfl | ⟨A', a, e⟩
      · simp at hA
      · exact ⟨A', a, by rw [e, List.concat_eq_append]⟩
    have hA' : A'.length = d := by simpa using hA
    have e1 : ((A' ++ [a]).length : Int) = (A'.length : Int) + 1 := by simp
    have r1 : rd (A' ++ [a] ++ y :: (B ++ C)) ((A'.length : Int) + 1) = y := by rw [← e1]; exact rd_mid _ _ _
    have r2 : rd (A' ++ [a] ++ y :: (B ++ C)) (A'.length : Int) = a := by rw [← assoc_mid]; exact rd_mid _ _ _
    have hlen : ((A' ++ [a] ++ y :: (B ++ C)).length : Int) = (A'.length : Int) + 2 + (B.length : Int) + (C.length : Int) := by simp; omega
    have hl1 : A'.length ≤ 1000 := by simp at hl; omega
    by_cases hya : y < a
    · obtain ⟨D, hp, hD, hgo⟩ := ih A' y (a :: B) hA' (by simpa using hs) (fun b hb => by
        rcases List.mem_cons.1 hb with rfl | hb
        · exact hya
        · exact hy b hb) (by simp at hl ⊢; omega)
      refine ⟨D, hp.trans ?_, hD, fun i R h0 h1 h => ?_⟩
      · rw [List.append_assoc]
        exact List.Perm.append_left _ (List.Perm.swap a y B)
      · refine Ev.step (fun k => slices_insertionSortOrdered_int.l1.eq_2 ..) ?_
        rw [e1, wrap_id (x := (A'.length : Int) + 1 - 1) (by omega) (by omega), Int.add_sub_cancel, r1, r2]
        refine ev_pos (by omega) (ev_pos (by omega) (ev_pos (by rw [hlen]; omega) (ev_pos (by omega) (ev_pos (by rw [hlen]; omega) (ev_bindc (less y a) (ev_pos (by simpa using hya) ?_))))))
        have e2 : ((A' ++ [a] ++ y :: (B ++ C)).set ((A'.length : Int) + 1).toNat a).set (A'.length : Int).toNat y = A' ++ y :: (a :: B ++ C) := by
          rw [← e1, set_mid, ← assoc_mid, ← assoc_mid, Int.toNat_natCast, List.set_append_right _ _ (Nat.le_refl _)]
          simp
        rw [e2]
        exact hgo i R h0 h1 h
    · refine ⟨A' ++ [a] ++ y :: B, List.Perm.refl _, ?_, fun i R h0 h1 h => ?_⟩
      · have hs2 := List.pairwise_append.1 hs
        have hA2 := List.pairwise_append.1 hs2.1
        refine List.pairwise_append.2 ⟨hs2.1, List.pairwise_cons.2 ⟨fun b hb => Int.le_of_lt (hy b hb), hs2.2.1⟩, fun x hx z hz => ?_⟩
        have hxa : x ≤ a := by
          rcases List.mem_append.1 hx with hx | hx
          · exact hA2.2.2 x hx a (by simp)
          · simp at hx; omega
        rcases List.mem_cons.1 hz with rfl | hz
        · omega
        · have := hy z hz; omega
      · refine Ev.step (fun k => slices_insertionSortOrdered_int.l1.eq_2 ..) ?_
        rw [e1, wrap_id (x := (A'.length : Int) + 1 - 1) (by omega) (by omega), Int.add_sub_cancel, r1, r2]
        refine ev_pos (by omega) (ev_pos (by omega) (ev_pos (by rw [hlen]; omega) (ev_pos (by omega) (ev_pos (by rw [hlen]; omega) (ev_bindc (less y a) (ev_neg (by simpa using hya) ?_))))))
        rw [wrap_id (x := i + 1) (by omega) (by omega)]
        simpa using h
theorem isort_out (hn : n ≤ 1000) : ∀ (C D : List Int), D.Pairwise (· ≤ ·) → ((D.length + C.length : Nat) : Int) = n → ∃ r : List Int, Ev (fun k => slices_insertionSortOrdered_int.l0 k (D ++ C) 0 n (D.length : Int)) r ∧ r.Perm (D ++ C) ∧ r.Pairwise (· ≤ ·) := by
  intro C
  induction C with
  | nil =>
    intro D hD hl
    simp only [List.length_nil, Nat.add_zero] at hl
    exact ⟨D, Ev.step (fun k => slices_insertionSortOrdered_int.l0.eq_2 ..) (ev_neg (by omega) (ev_const (by simp))), by simp, hD⟩
  | cons y C ih =>
    intro D hD hl
    simp only [List.length_cons] at hl
    obtain ⟨E, hp, hE, hgo⟩ := isort_in C hn D.length D y [] rfl (by simpa using hD) (by simp) (by simp; omega)
    have hEl : E.length = D.length + 1 := by rw [hp.length_eq]; simp
    obtain ⟨r, hr, hrp, hrs⟩ := ih E hE (by rw [hEl]; omega)
    refine ⟨r, ?_, hrp.trans ?_, hrs⟩
    · refine Ev.step (fun k => slices_insertionSortOrdered_int.l0.eq_2 ..) (ev_pos (by omega) ?_)
      have := hgo (D.length : Int) r (by omega) (by omega) (by rw [show (D.length : Int) + 1 = (E.length : Int) by rw [hEl]; simp]; exact hr)
      simpa using this
    · have := hp.append_right C
      simpa using this
end
theorem isort (l : List Int) (h1 : 1 ≤ l.length) (h2 : l.length ≤ 1000) : ∃ r : List Int, Ev (fun k => slices_insertionSortOrdered_int.f k l 0 (l.length : Int)) r ∧ r.Perm l ∧ r.Pairwise (· ≤ ·) := by
  cases l with
  | nil => simp at h1
  | cons x C =>
    obtain ⟨r, h, hp, hs⟩ := isort_out (n := ((x :: C).length : Int)) (by omega) C [x] (by simp) (by simp; omega)
    refine ⟨r, ?_, hp, hs⟩
    unfold slices_insertionSortOrdered_int.f
    rw [wrap_id (x := (0 : Int) + 1) (by omega) (by omega)]
    exact h
/-- Put in where it belongs, if it isn't there. -/
def putL (x : Int) : List Int → List Int
  | [] => [x]
  | y :: l => if y < x then y :: putL x l else if y = x then y :: l else x :: y :: l
theorem putL_mem (x z : Int) : ∀ l : List Int, z ∈ putL x l ↔ z = x ∨ z ∈ l := by
  intro l
  induction l with
  | nil => simp [putL]
  | cons y l ih =>
    rw [putL]
    by_cases h1 : y < x
    · rw [if_pos h1, List.mem_cons, ih, List.mem_cons]
      constructor <;> rintro (h | h | h) <;> simp [h]
    · rw [if_neg h1]
      by_cases h2 : y = x
      · rw [if_pos h2, List.mem_cons]; subst h2
        constructor
        · rintro (h | h) <;> simp [h]
        · rintro (h | h | h) <;> simp [h]
      · rw [if_neg h2]; simp [List.mem_cons]
theorem putL_sorted (x : Int) : ∀ l : List Int, l.Pairwise (· < ·) → (putL x l).Pairwise (· < ·) := by
  intro l
  induction l with
  | nil => intro _; simp [putL]
  | cons y l ih =>
    intro h
    have h' := List.pairwise_cons.1 h
    rw [putL]
    by_cases h1 : y < x
    · rw [if_pos h1]
      refine List.pairwise_cons.2 ⟨fun z hz => ?_, ih h'.2⟩
      rcases (putL_mem x z l).1 hz with rfl | hz
      · exact h1
      · exact h'.1 z hz
    · rw [if_neg h1]
      by_cases h2 : y = x
      · rw [if_pos h2]; exact h
      · rw [if_neg h2]
        refine List.pairwise_cons.2 ⟨fun z hz => ?_, h⟩
        rcases List.mem_cons.1 hz with rfl | hz
        · omega
        · have := h'.1 z hz; omega
def sortL (l : List Int) : List Int := l.foldl (fun acc x => putL x acc) []
theorem sortL_spec : ∀ (l acc : List Int), acc.Pairwise (· < ·) → (l.foldl (fun acc x => putL x acc) acc).Pairwise (· < ·) ∧ ∀ z, z ∈ l.foldl (fun acc x => putL x acc) acc ↔ z ∈ l ∨ z ∈ acc := by
  intro l
  induction l with
  | nil => intro acc h; exact ⟨h, by simp⟩
  | cons x l ih =>
    intro acc h
    obtain ⟨h1, h2⟩ := ih (putL x acc) (putL_sorted x acc h)
    refine ⟨h1, fun z => ?_⟩
    rw [List.foldl_cons, h2, putL_mem, List.mem_cons]
    constructor
    · rintro (h | h | h) <;> simp [h]
    · rintro ((h | h) | h) <;> simp [h]
/-- What insertion sort makes of a list without repetition. -/
theorem sorted_is {r l : List Int} (hp : r.Perm l) (hs : r.Pairwise (· ≤ ·)) (hn : l.Nodup) : r = sortL l := by
  obtain ⟨h1, h2⟩ := sortL_spec l [] List.Pairwise.nil
  have hr : r.Nodup := hp.nodup_iff.2 hn
  refine strict_eq r (sortL l) ?_ h1 (fun z => ?_)
  · exact (hs.and hr).imp (fun h => by have := h.1; have := h.2; omega)
  · rw [hp.mem_iff]
    have := h2 z
    simpa [sortL] using this.symm
theorem sortL_len (l : List Int) (hn : l.Nodup) (h1 : 1 ≤ l.length) (h2 : l.length ≤ 1000) : (sortL l).length = l.length := by
  obtain ⟨r, _, hp, hs⟩ := isort l h1 h2
  rw [← sorted_is hp hs hn]
  exact hp.length_eq
end Go.Proofs.Ytkfedkckakegjaa.A
