/- Runs of programs on counters in plain lists: what the program and the reference make of them. -/
import Derived.Test.YtbcphkblieeemaaYFnExactIsEndlessVAdvance
import Derived.Test.YtbcphkblieeemaaZFnExactIsEndless0
namespace Go.Proofs.Ytbcphkblieeemaa.A
open Go.RowKit Go.Proofs.YtbcphkblieeemaaW.PrintWords Go.Proofs.YtbcphkblieeemaaW.PrintLast Go.Proofs.YtbcphkblieeemaaW.PrintMore Go.Proofs.Ytbcphkblieeemaa.P Go.Proofs.Ytbcphkblieeemaa.T
set_option linter.unusedVariables false
set_option linter.unusedSimpArgs false
/-- The program has halted. -/
abbrev hLt (l : List S55) (line : Int) : Prop := line = (l.length : Int) ∨ (rd_T55 l line).f0 = 3
/-- The step finds a zero. -/
def zeroL (l : List S55) (line : Int) (vs : List Int) : Bool := decide (¬ hLt l line ∧ (rd_T55 l line).f0 = 1 ∧ rd vs (rd_T55 l line).f1 = 0)
variable {l : List S55} {line : Int} {vs : List Int}
theorem okAt (h : StOk l line vs) (hlt : line < (l.length : Int)) : OkI l.length vs.length (rd_T55 l line) := h.1.1 _ (by
    have h0 := h.2.1.1
    have : rd_T55 l line = l[line.toNat]'(by omega) := by simp [rd_T55, List.getD_eq_getElem?_getD, show line.toNat < l.length by omega]
    rw [this]; exact List.getElem_mem _)
theorem halted_step (h : hLt l line) : stepL l line vs = (line, vs, true) := if_pos h
theorem stepL_len (l : List S55) (line : Int) (vs : List Int) : (stepL l line vs).2.1.length = vs.length := by
  unfold stepL
  repeat' split
  all_goals simp
theorem set_all {vs : List Int} {j : Nat} {x : Int} (h : ∀ v ∈ vs, 0 ≤ v ∧ v ≤ 10000) (hx : 0 ≤ x ∧ x ≤ 10000) : ∀ v ∈ vs.set j x, 0 ≤ v ∧ v ≤ 10000 := by
  intro v hv
  rcases List.mem_or_eq_of_mem_set hv with h1 | h1
  · exact h v h1
  · rw [h1]; exact hx
theorem stepL_ok (h : StOk l line vs) : StOk l (stepL l line vs).1 (stepL l line vs).2.1 := by
  have hn := h.2.1
  by_cases hh : hLt l line
  · rw [halted_step hh]; exact h
  have hlt : line < (l.length : Int) := by
    have : ¬ line = (l.length : Int) := fun e => hh (.inl e)
    omega
  have hx := okAt h hlt
  unfold OkI at hx
  unfold stepL
  rw [if_neg hh]
  obtain ⟨x, hxe⟩ : ∃ x, x = rd_T55 l line := ⟨_, rfl⟩
  rw [← hxe] at hx ⊢
  have hm : 0 ≤ rd vs x.f1 ∧ rd vs x.f1 ≤ 10000 := h.2.2 _ (rd_in hx.2.2.1 hx.2.2.2.1)
  have key : ∀ (a : Int) (us : List Int), us.length = vs.length → (0 ≤ a ∧ a ≤ (l.length : Int)) → (∀ v ∈ us, 0 ≤ v ∧ v ≤ 10000) → StOk l a us := by
    intro a us hu ha hv
    refine ⟨?_, ha, hv⟩
    rw [hu]; exact h.1
  by_cases h0 : x.f0 = 0
  · rw [if_pos h0]
    by_cases hM : rd vs x.f1 = 10000
    · rw [if_pos hM]; exact h
    · rw [if_neg hM]; exact key _ _ (by simp) (by constructor <;> simp only <;> omega) (set_all h.2.2 (by omega))
  · rw [if_neg h0]
    by_cases h1 : x.f0 = 1
    · rw [if_pos h1]
      by_cases hM : rd vs x.f1 = 0
      · rw [if_pos hM]; exact key _ _ rfl (by simp only; omega) h.2.2
      · rw [if_neg hM]; exact key _ _ (by simp) (by constructor <;> simp only <;> omega) (set_all h.2.2 (by omega))
    · rw [if_neg h1]; exact key _ _ rfl (by simp only; omega) h.2.2
theorem implHalted (h : StOk l line vs) : impl_hasHalted.f l line vs = some (decide (hLt l line)) := by
  have hn := h.2.1
  unfold impl_hasHalted.f
  by_cases h1 : line ≥ (l.length : Int)
  · rw [if_pos h1, show decide (hLt l line) = true from decide_eq_true (.inl (by omega))]
  · rw [if_neg h1, if_pos hn.1, if_pos (by omega)]
    by_cases h3 : (rd_T55 l line).f0 = 3
    · rw [show decide (hLt l line) = true from decide_eq_true (.inr h3), h3]; rfl
    · rw [show decide (hLt l line) = false from decide_eq_false (fun e => e.elim (by omega) h3)]; simp [h3]
theorem specHalted (h : StOk l line vs) : spec_ctHalted.f l line vs = some (decide (hLt l line)) := by
  have hn := h.2.1
  unfold spec_ctHalted.f
  by_cases h1 : line = (l.length : Int)
  · rw [if_pos h1, show decide (hLt l line) = true from decide_eq_true (.inl h1)]
  · rw [if_neg h1, if_pos hn.1, if_pos (by omega)]
    by_cases h3 : (rd_T55 l line).f0 = 3
    · rw [show decide (hLt l line) = true from decide_eq_true (.inr h3), h3]; rfl
    · rw [show decide (hLt l line) = false from decide_eq_false (fun e => e.elim h1 h3)]; simp [h3]
/-! The runs. -/
variable (l)
/-- impl.HaltsAfter's loop: m rounds are left. -/
def haltI : Nat → Int → Int → List Int → Int × Bool
  | 0, _, _, _ => (0, false)
  | m + 1, i, line, vs => if hLt l line then (i, true) else if (stepL l line vs).2.2 = true then haltI m (i + 1) (stepL l line vs).1 (stepL l line vs).2.1 else (0, false)
def runI (n : Int) : Nat → Int → Int → List Int → Int × List Int × Int × Bool
  | 0, _, line, vs => (line, vs, n, true)
  | m + 1, i, line, vs => if hLt l line then (line, vs, i, true) else if (stepL l line vs).2.2 = true then runI n m (i + 1) (stepL l line vs).1 (stepL l line vs).2.1 else (0, [], 0, false)
def statesI : Nat → Int → List Int → List S31 × Bool
  | 0, line, vs => ([⟨line, vs⟩], true)
  | m + 1, line, vs => if (stepL l line vs).2.2 = true then (⟨line, vs⟩ :: (statesI m (stepL l line vs).1 (stepL l line vs).2.1).1, (statesI m (stepL l line vs).1 (stepL l line vs).2.1).2) else ([⟨line, vs⟩], false)
/-- spec.ctMake: the states, the last zeros, whether a step failed. -/
def makeL : Nat → Int → Int → List Int → Int → List S31 × List Int × Bool
  | 0, _, line, vs, z => ([⟨line, vs⟩], [z], false)
  | m + 1, k, line, vs, z => if hLt l line then ([⟨line, vs⟩], [z], false) else if (stepL l line vs).2.2 = true then
      (⟨line, vs⟩ :: (makeL m (k + 1) (stepL l line vs).1 (stepL l line vs).2.1 (if zeroL l line vs = true then k else z)).1, z :: (makeL m (k + 1) (stepL l line vs).1 (stepL l line vs).2.1 (if zeroL l line vs = true then k else z)).2.1, (makeL m (k + 1) (stepL l line vs).1 (stepL l line vs).2.1 (if zeroL l line vs = true then k else z)).2.2)
    else ([⟨line, vs⟩], [z], true)
variable {l}
def lastS (S : List S31) : S31 := rd_T31 S ((S.length : Int) - 1)
theorem lastS_cons (x : S31) {S : List S31} (h : S ≠ []) : lastS (x :: S) = lastS S := by
  have : 0 < S.length := List.length_pos_iff.2 h
  unfold lastS rd_T31
  rw [show (((x :: S).length : Int) - 1).toNat = (((S.length : Int) - 1).toNat) + 1 by simp only [List.length_cons]; omega]
  simp
theorem lastS_one (x : S31) : lastS [x] = x := by simp [lastS, rd_T31]
theorem makeL_ne (m : Nat) (k line : Int) (vs : List Int) (z : Int) : (makeL l m k line vs z).1 ≠ [] := by
  cases m with
  | zero => simp [makeL]
  | succ m => unfold makeL; repeat' split
              all_goals simp
theorem makeL_len : ∀ (m : Nat) (k line : Int) (vs : List Int) (z : Int), (makeL l m k line vs z).1.length ≤ m + 1 ∧ (makeL l m k line vs z).2.1.length = (makeL l m k line vs z).1.length := by
  intro m
  induction m with
  | zero => intro k line vs z; simp [makeL]
  | succ m ih =>
    intro k line vs z
    unfold makeL
    split
    · simp
    · split
      · have := ih (k + 1) (stepL l line vs).1 (stepL l line vs).2.1 (if zeroL l line vs = true then k else z)
        simp only [List.length_cons]; omega
      · simp
theorem statesI_len : ∀ (m : Nat) (line : Int) (vs : List Int), 1 ≤ (statesI l m line vs).1.length ∧ (statesI l m line vs).1.length ≤ m + 1 := by
  intro m
  induction m with
  | zero => intro line vs; simp [statesI]
  | succ m ih =>
    intro line vs
    unfold statesI
    split
    · have := ih (stepL l line vs).1 (stepL l line vs).2.1
      simp only [List.length_cons]; omega
    · simp
theorem makeL_ok : ∀ (m : Nat) (k line : Int) (vs : List Int) (z : Int), StOk l line vs → ∀ s ∈ (makeL l m k line vs z).1, StOk l s.f0 s.f1 ∧ s.f1.length = vs.length := by
  intro m
  induction m with
  | zero => intro k line vs z h s hs; simp only [makeL, List.mem_singleton] at hs; subst hs; exact ⟨h, rfl⟩
  | succ m ih =>
    intro k line vs z h s hs
    unfold makeL at hs
    split at hs
    · rw [List.mem_singleton] at hs; subst hs; exact ⟨h, rfl⟩
    · split at hs
      · rcases List.mem_cons.1 hs with rfl | hs
        · exact ⟨h, rfl⟩
        · have := ih _ _ _ _ (stepL_ok h) s hs
          rw [stepL_len] at this; exact this
      · rw [List.mem_singleton] at hs; subst hs; exact ⟨h, rfl⟩
theorem lastS_mem {S : List S31} (h : S ≠ []) : lastS S ∈ S := by
  have h1 : 0 < S.length := List.length_pos_iff.2 h
  have h2 : ((S.length : Int) - 1).toNat < S.length := by omega
  have : lastS S = S[((S.length : Int) - 1).toNat] := by
    unfold lastS rd_T31
    rw [List.getD_eq_getElem?_getD, List.getElem?_eq_getElem h2]; rfl
  rw [this]; exact List.getElem_mem _
theorem halt_eq : ∀ (m : Nat) (i k line : Int) (vs : List Int) (z : Int), haltI l (m + 1) i line vs =
    if (makeL l m k line vs z).2.2 = true ∨ ¬ hLt l (lastS (makeL l m k line vs z).1).f0 then (0, false) else (i + (((makeL l m k line vs z).1.length : Int) - 1), true) := by
  intro m
  induction m with
  | zero =>
    intro i k line vs z
    simp only [haltI, makeL, lastS_one, Bool.false_eq_true, false_or, List.length_singleton]
    by_cases h : hLt l line
    · rw [if_pos h, if_neg (fun a => a h)]; simp
    · rw [if_neg h, if_pos h]; split <;> rfl
  | succ m ih =>
    intro i k line vs z
    rw [haltI, makeL]
    by_cases h : hLt l line
    · rw [if_pos h, if_pos h, lastS_one, if_neg (by simp [h])]; simp
    · rw [if_neg h, if_neg h]
      by_cases ho : (stepL l line vs).2.2 = true
      · rw [if_pos ho, if_pos ho, ih (i + 1) (k + 1) _ _ (if zeroL l line vs = true then k else z), lastS_cons _ (makeL_ne _ _ _ _ _)]
        generalize makeL l m (k + 1) (stepL l line vs).1 (stepL l line vs).2.1 (if zeroL l line vs = true then k else z) = M
        simp only [List.length_cons]
        split
        · rfl
        · rw [Prod.mk.injEq]; refine ⟨?_, rfl⟩; omega
      · rw [if_neg ho, if_neg ho, if_pos (.inl rfl)]
theorem run_eq : ∀ (m : Nat) (i k line : Int) (vs : List Int) (z : Int), runI l (i + m) m i line vs =
    if (makeL l m k line vs z).2.2 = true then (0, [], 0, false) else ((lastS (makeL l m k line vs z).1).f0, (lastS (makeL l m k line vs z).1).f1, i + (((makeL l m k line vs z).1.length : Int) - 1), true) := by
  intro m
  induction m with
  | zero =>
    intro i k line vs z
    simp [runI, makeL, lastS_one]
  | succ m ih =>
    intro i k line vs z
    rw [runI, makeL]
    by_cases h : hLt l line
    · rw [if_pos h, if_pos h, lastS_one, if_neg (by simp)]; simp
    · rw [if_neg h, if_neg h]
      by_cases ho : (stepL l line vs).2.2 = true
      · rw [if_pos ho, if_pos ho, lastS_cons _ (makeL_ne _ _ _ _ _), show i + ((m + 1 : Nat) : Int) = (i + 1) + (m : Int) by omega, ih (i + 1) (k + 1) _ _ (if zeroL l line vs = true then k else z)]
        generalize makeL l m (k + 1) (stepL l line vs).1 (stepL l line vs).2.1 (if zeroL l line vs = true then k else z) = M
        simp only [List.length_cons]
        split
        · rfl
        · simp only [Prod.mk.injEq, true_and, and_true]; omega
      · rw [if_neg ho, if_neg ho, if_pos rfl]
end Go.Proofs.Ytbcphkblieeemaa.A
