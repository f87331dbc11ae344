/- The lines of a run, and the greatest values, in plain lists: a fold over the states, the same for the program's states and the reference's. -/
import Derived.Test.YtbcphkblieeemaaYFnExactIsEndlessARun
namespace Go.Proofs.Ytbcphkblieeemaa.A
open Go.RowKit Go.Proofs.YtbcphkblieeemaaW.PrintWords Go.Proofs.YtbcphkblieeemaaW.PrintLast Go.Proofs.YtbcphkblieeemaaW.PrintMore Go.Proofs.Ytbcphkblieeemaa.P Go.Proofs.Ytbcphkblieeemaa.T
set_option linter.unusedVariables false
set_option linter.unusedSimpArgs false
variable {l : List S55} {line : Int} {vs : List Int}
theorem states_halted (h : hLt l line) : ∀ m : Nat, statesI l m line vs = (List.replicate (m + 1) ⟨line, vs⟩, true) := by
  intro m
  induction m with
  | zero => rfl
  | succ m ih =>
    rw [statesI, halted_step h]
    simp only [if_true]
    rw [ih, List.replicate_succ (n := m + 1)]
theorem foldl_replicate {U : Type} (f : U → S31 → U) (hf : ∀ u s, f (f u s) s = f u s) (s : S31) : ∀ (d : Nat) (u : U), (List.replicate (d + 1) s).foldl f u = f u s := by
  intro d
  induction d with
  | zero => intro u; rfl
  | succ d ih => intro u; rw [List.replicate_succ, List.foldl_cons, ih, hf]
/-- What a fold makes of the program's states is what it makes of the reference's. -/
theorem fold_states {U : Type} (f : U → S31 → U) (hf : ∀ u s, f (f u s) s = f u s) : ∀ (m : Nat) (k line : Int) (vs : List Int) (z : Int) (u : U),
    (statesI l m line vs).2 = !(makeL l m k line vs z).2.2 ∧ ((makeL l m k line vs z).2.2 = false → (statesI l m line vs).1.foldl f u = (makeL l m k line vs z).1.foldl f u) := by
  intro m
  induction m with
  | zero => intro k line vs z u; exact ⟨rfl, fun _ => rfl⟩
  | succ m ih =>
    intro k line vs z u
    by_cases h : hLt l line
    · rw [states_halted h, makeL, if_pos h]
      exact ⟨rfl, fun _ => by rw [foldl_replicate f hf]; rfl⟩
    · rw [statesI, makeL, if_neg h]
      by_cases ho : (stepL l line vs).2.2 = true
      · rw [if_pos ho, if_pos ho]
        obtain ⟨h1, h2⟩ := ih (k + 1) (stepL l line vs).1 (stepL l line vs).2.1 (if zeroL l line vs = true then k else z) (f u ⟨line, vs⟩)
        exact ⟨h1, fun hb => by rw [List.foldl_cons, List.foldl_cons]; exact h2 hb⟩
      · rw [if_neg ho, if_neg ho]
        exact ⟨rfl, fun hb => by simp at hb⟩
theorem states_ok : ∀ (m : Nat) (line : Int) (vs : List Int), StOk l line vs → ∀ s ∈ (statesI l m line vs).1, StOk l s.f0 s.f1 ∧ s.f1.length = vs.length := by
  intro m
  induction m with
  | zero => intro line vs h s hs; simp only [statesI, List.mem_singleton] at hs; subst hs; exact ⟨h, rfl⟩
  | succ m ih =>
    intro line vs h s hs
    unfold statesI at hs
    split at hs
    · rcases List.mem_cons.1 hs with rfl | hs
      · exact ⟨h, rfl⟩
      · have := ih _ _ (stepL_ok h) s hs
        rw [stepL_len] at this; exact this
    · rw [List.mem_singleton] at hs; subst hs; exact ⟨h, rfl⟩
/-! Lines. -/
def markS (u : List Bool) (x : S31) : List Bool := u.set x.f0.toNat true
theorem markS_idem (u : List Bool) (s : S31) : markS (markS u s) s = markS u s := by simp [markS]
theorem markS_len (S : List S31) : ∀ u, (S.foldl markS u).length = u.length := by
  induction S with
  | nil => intro u; rfl
  | cons x S ih => intro u; rw [List.foldl_cons, ih]; simp [markS]
def pickL : List Bool → Int → List Int
  | [], _ => []
  | b :: u, i => if b = true then i :: pickL u (i + 1) else pickL u (i + 1)
theorem pickL_len : ∀ (u : List Bool) (i : Int), (pickL u i).length ≤ u.length := by
  intro u
  induction u with
  | nil => intro i; simp [pickL]
  | cons b u ih => intro i; have := ih (i + 1); unfold pickL; split <;> simp <;> omega
def linesL (S : List S31) (n : Nat) : List Int := pickL (S.foldl markS (List.replicate n false)) 0
/-- What both answer. -/
def resLines (l : List S55) (line : Int) (vs : List Int) (n : Int) : List Int × Bool :=
  if StOk l line vs ∧ 0 ≤ n ∧ n ≤ 2000 then (if (makeL l n.toNat 0 line vs (-1)).2.2 = true then ([], false) else (linesL (makeL l n.toNat 0 line vs (-1)).1 (l.length + 1), true)) else ([], false)
theorem resLines_len (l : List S55) (line : Int) (vs : List Int) (n : Int) (h1 : l.length ≤ 1048576) (h2 : vs.length ≤ 1048576) : (resLines l line vs n).1.length ≤ 1048577 := by
  unfold resLines linesL
  split
  · split
    · simp
    · simp only
      have := pickL_len ((makeL l n.toNat 0 line vs (-1)).1.foldl markS (List.replicate (l.length + 1) false)) 0
      rw [markS_len, List.length_replicate] at this
      omega
  · simp
theorem rdT_mem {S : List S31} {i : Int} (h0 : 0 ≤ i) (h1 : i < S.length) : rd_T31 S i ∈ S := by
  have h2 : i.toNat < S.length := by omega
  have : rd_T31 S i = S[i.toNat] := by
    unfold rd_T31
    rw [List.getD_eq_getElem?_getD, List.getElem?_eq_getElem h2]; rfl
  rw [this]; exact List.getElem_mem _
end Go.Proofs.Ytbcphkblieeemaa.A
