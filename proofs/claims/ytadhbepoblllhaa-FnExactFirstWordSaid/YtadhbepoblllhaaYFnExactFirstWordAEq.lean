/- What the program's and the reference's functions on two automata come to, in plain lists. -/
import Derived.Test.YtadhbepoblllhaaYFnExactFirstWordPx19
import Derived.Test.YtadhbepoblllhaaYFnExactFirstWordPx8
import Derived.Test.YtadhbepoblllhaaYFnExactFirstWordPx13
import Derived.Test.YtadhbepoblllhaaYFnExactFirstWordAWord0
import Derived.Test.YtadhbepoblllhaaYFnExactFirstWordABase
namespace Go.Proofs.Ytadhbepoblllhaa.A
open Go.RowKit Go.Proofs.YtadhbepoblllhaaW.PrintWords Go.Proofs.YtadhbepoblllhaaW.PrintLast Go.Proofs.YtadhbepoblllhaaW.PrintMore Go.Proofs.Ytadhbepoblllhaa.P Go.Proofs.Ytadhbepoblllhaa.T
set_option linter.unusedVariables false
set_option linter.unusedSimpArgs false
def AuSm (N : List (List Int)) (F : List Int) : Prop := N.length ≤ 1048576 ∧ (∀ x ∈ N, x.length ≤ 1048576) ∧ F.length ≤ 1048576
instance (N : List (List Int)) (F : List Int) : Decidable (AuSm N F) := by unfold AuSm; infer_instance
theorem AuSm.max {N : List (List Int)} {F : List Int} (h : AuSm N F) : N.length ≤ maxLen ∧ (∀ x ∈ N, x.length ≤ maxLen) ∧ F.length ≤ maxLen :=
  ⟨by have := h.1; simp only [maxLen]; omega, fun x hx => by have := h.2.1 x hx; simp only [maxLen]; omega, by have := h.2.2; simp only [maxLen]; omega⟩
def PairOk (kind L : Int) (A : List (List Int)) (F : List Int) (L2 : Int) (B : List (List Int)) (G : List Int) : Prop := (1 ≤ kind ∧ kind ≤ 4) ∧ AuOk L A F ∧ AuOk L2 B G ∧ L = L2
instance (kind L : Int) (A : List (List Int)) (F : List Int) (L2 : Int) (B : List (List Int)) (G : List Int) : Decidable (PairOk kind L A F L2 B G) := by unfold PairOk; infer_instance
section
variable {kind L L2 i j : Int} {A B : List (List Int)} {F G : List Int}
theorem PairOk.two (h : PairOk kind L A F L2 B G) : TwoOk L A B := TwoOk.of h.2.1 (by rw [h.2.2.2]; exact h.2.2.1)
theorem AuOk.zero (h : AuOk L A F) (k : AuOk L2 B G) : VP A B (0, 0) := ⟨⟨by simp, by have := h.2.1; simp; omega⟩, ⟨by simp, by have := k.2.1; simp; omega⟩⟩
theorem arePair (hA : AuSm A F) (hB : AuSm B G) : Ev (fun k => impl_arePair.f k kind L A F L2 B G) (decide (PairOk kind L A F L2 B G)) := by
  unfold impl_arePair.f
  by_cases h1 : kind ≥ 1
  · refine ev_pos h1 ?_
    by_cases h2 : kind ≤ 4
    · refine ev_pos h2 (ev_bind (isAu L A F hA.max.1 hA.max.2.1 hA.max.2.2) ?_)
      by_cases h3 : AuOk L A F
      · refine ev_pos (by simpa using h3) (ev_bind (isAu L2 B G hB.max.1 hB.max.2.1 hB.max.2.2) ?_)
        by_cases h4 : AuOk L2 B G
        · refine ev_pos (by simpa using h4) (ev_const ?_)
          congr 1
          rw [Bool.eq_iff_iff]
          simp [PairOk, h1, h2, h3, h4]
        · exact ev_neg (by simpa using h4) (ev_const (by simp [PairOk, h4]))
      · exact ev_neg (by simpa using h3) (ev_const (by simp [PairOk, h3]))
    · exact ev_neg h2 (ev_const (by simp [PairOk, h2]))
  · exact ev_neg h1 (ev_const (by simp [PairOk, h1]))
theorem eqTwo (hA : AuSm A F) (hB : AuSm B G) : Ev (fun k => spec_eqTwo.f k kind L A F L2 B G) (decide (PairOk kind L A F L2 B G)) := by
  unfold spec_eqTwo.f
  rw [in_f]
  refine ev_bindc rfl ?_
  by_cases h2 : 1 ≤ kind ∧ kind ≤ 4
  · refine ev_pos (by simpa using h2) (ev_bind (auGood L A F hA.max.1 hA.max.2.1 hA.max.2.2) ?_)
    by_cases h3 : AuOk L A F
    · refine ev_pos (by simpa using h3) (ev_bind (auGood L2 B G hB.max.1 hB.max.2.1 hB.max.2.2) ?_)
      by_cases h4 : AuOk L2 B G
      · refine ev_pos (by simpa using h4) (ev_const ?_)
        congr 1
        rw [Bool.eq_iff_iff]
        simp [PairOk, h2, h3, h4]
      · exact ev_neg (by simpa using h4) (ev_const (by simp [PairOk, h4]))
    · exact ev_neg (by simpa using h3) (ev_const (by simp [PairOk, h3]))
  · exact ev_neg (by simpa using h2) (ev_const (by simp [PairOk, h2]))
def wordOf (kind : Int) (A : List (List Int)) (F : List Int) (B : List (List Int)) (G : List Int) (i j : Int) : List Int × Bool := findP kind F G (bfsP A B i j).1 (bfsP A B i j).2
theorem findP_len (kind : Int) (F G : List Int) (b : Nat) : ∀ (S : List (Int × Int)) (X : List (List Int)), (∀ x ∈ X, x.length ≤ b) → (findP kind F G S X).1.length ≤ b := by
  intro S
  induction S with
  | nil => intro X _; simp [findP]
  | cons s S ih =>
    intro X h
    cases X with
    | nil => simp [findP]
    | cons x X =>
      rw [findP]
      split
      · exact h x (List.mem_cons_self ..)
      · exact ih X (fun y hy => h y (List.mem_cons_of_mem _ hy))
theorem wordOf_len (hT : TwoOk L A B) (hV : VP A B (i, j)) : (wordOf kind A F B G i j).1.length ≤ 144 := by
  refine findP_len _ _ _ _ _ _ (fun x hx => ?_)
  have h := (bfsP_end hT hV).1
  obtain ⟨n, hn⟩ := List.getElem?_of_mem hx
  have hl : n < (bfsP A B i j).2.length := (List.getElem?_eq_some_iff.1 hn).1
  have h1 := h.len
  obtain ⟨s, hs⟩ : ∃ s, (bfsP A B i j).1[n]? = some s := ⟨_, List.getElem?_eq_getElem (by omega)⟩
  have h2 := (h.way n s x hs hn).2
  have h3 := h.shortP
  have h4 := mul_144 hT.2.1.1.2 hT.2.2.1.2
  omega
theorem eqWordE (hT : TwoOk L A B) (hV : VP A B (i, j)) (hF : F.length ≤ maxLen) (hG : G.length ≤ maxLen) : Ev (fun k => spec_eqWord.f k kind L A F L2 B G i j) (wordOf kind A F B G i j) := by
  unfold spec_eqWord.f
  exact ev_const (if_pos ⟨⟨hT, hV⟩, hF, hG⟩)
end
def resTwo (kind L : Int) (A : List (List Int)) (F : List Int) (L2 : Int) (B : List (List Int)) (G : List Int) : Bool × Bool := if PairOk kind L A F L2 B G then (!(wordOf kind A F B G 0 0).2, true) else (false, false)
def resFirst (kind L : Int) (A : List (List Int)) (F : List Int) (L2 : Int) (B : List (List Int)) (G : List Int) : List Int × Bool := if PairOk kind L A F L2 B G then wordOf kind A F B G 0 0 else ([], false)
def InS (A : List (List Int)) (i : Int) : Prop := 0 ≤ i ∧ i < (A.length : Int)
instance (A : List (List Int)) (i : Int) : Decidable (InS A i) := by unfold InS; infer_instance
def resApart (L : Int) (A : List (List Int)) (F : List Int) (i j : Int) : List Int × Bool := if AuOk L A F ∧ InS A i ∧ InS A j then wordOf 3 A F A F i j else ([], false)
/-- The pairs (i, j) with j from m on, d of them left, that no word tells apart. -/
def eqRow (A : List (List Int)) (F : List Int) (i : Nat) : Nat → Nat → List (List Int)
  | 0, _ => []
  | d + 1, m => (if (wordOf 3 A F A F (i : Int) (m : Int)).2 = true then [] else [[(i : Int), (m : Int)]]) ++ eqRow A F i d (m + 1)
def eqRows (A : List (List Int)) (F : List Int) : Nat → Nat → List (List Int)
  | 0, _ => []
  | d + 1, i => eqRow A F i (A.length - (i + 1)) (i + 1) ++ eqRows A F d (i + 1)
def resEqual (L : Int) (A : List (List Int)) (F : List Int) : List (List Int) × Bool := if AuOk L A F then (eqRows A F A.length 0, true) else ([], false)
theorem eqRow_len (A : List (List Int)) (F : List Int) (i : Nat) : ∀ d m, (eqRow A F i d m).length ≤ d ∧ ∀ x ∈ eqRow A F i d m, x.length = 2 := by
  intro d
  induction d with
  | zero => intro m; simp [eqRow]
  | succ d ih =>
    intro m
    obtain ⟨h1, h2⟩ := ih (m + 1)
    rw [eqRow]
    refine ⟨?_, fun x hx => ?_⟩
    · rw [List.length_append]; split <;> simp <;> omega
    · rcases List.mem_append.1 hx with hx | hx
      · split at hx
        · simp at hx
        · simp at hx; subst hx; rfl
      · exact h2 x hx
theorem eqRows_len (A : List (List Int)) (F : List Int) : ∀ d i, (eqRows A F d i).length ≤ d * A.length ∧ ∀ x ∈ eqRows A F d i, x.length = 2 := by
  intro d
  induction d with
  | zero => intro i; simp [eqRows]
  | succ d ih =>
    intro i
    obtain ⟨h1, h2⟩ := ih (i + 1)
    obtain ⟨h3, h4⟩ := eqRow_len A F i (A.length - (i + 1)) (i + 1)
    rw [eqRows]
    refine ⟨?_, fun x hx => ?_⟩
    · rw [List.length_append, Nat.succ_mul]; omega
    · rcases List.mem_append.1 hx with hx | hx
      · exact h4 x hx
      · exact h2 x hx
end Go.Proofs.Ytadhbepoblllhaa.A
