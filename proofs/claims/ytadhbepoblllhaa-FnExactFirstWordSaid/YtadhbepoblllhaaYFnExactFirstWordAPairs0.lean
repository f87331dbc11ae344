/- The reference's eqPairs: the pairs of states that are reached together, with their words, by breadth-first search. -/
import Derived.Test.YtadhbepoblllhaaYFnExactFirstWordAAu
import Derived.Test.YtadhbepoblllhaaABfs
namespace Go.Proofs.Ytadhbepoblllhaa.A
open Go.RowKit Go.Proofs.YtadhbepoblllhaaW.PrintWords Go.Proofs.YtadhbepoblllhaaW.PrintLast Go.Proofs.YtadhbepoblllhaaW.PrintMore Go.Proofs.Ytadhbepoblllhaa.P Go.Proofs.Ytadhbepoblllhaa.T
set_option linter.unusedVariables false
set_option linter.unusedSimpArgs false

def TwoOk (L : Int) (A B : List (List Int)) : Prop := (1 ≤ L ∧ L ≤ 3) ∧ ((1 ≤ A.length ∧ A.length ≤ 12) ∧ ∀ r ∈ A, RowOk L A.length r) ∧ ((1 ≤ B.length ∧ B.length ≤ 12) ∧ ∀ r ∈ B, RowOk L B.length r)
theorem TwoOk.of {L : Int} {A B : List (List Int)} {F G : List Int} (h : AuOk L A F) (k : AuOk L B G) : TwoOk L A B := ⟨h.1, ⟨by have := h.2.1; omega, h.2.2.1⟩, ⟨by have := k.2.1; omega, k.2.2.1⟩⟩
instance (L : Int) (A B : List (List Int)) : Decidable (TwoOk L A B) := by unfold TwoOk; infer_instance
def succP (A B : List (List Int)) (s : Int × Int) : List (Int × Int) := (A.getD s.1.toNat []).zip (B.getD s.2.toNat [])
def VP (A B : List (List Int)) (s : Int × Int) : Prop := (0 ≤ s.1 ∧ s.1 < (A.length : Int)) ∧ (0 ≤ s.2 ∧ s.2 < (B.length : Int))
instance (A B : List (List Int)) (s : Int × Int) : Decidable (VP A B s) := by unfold VP; infer_instance
def codeP (B : List (List Int)) (s : Int × Int) : Nat := s.1.toNat * B.length + s.2.toNat
def bfsP (A B : List (List Int)) (i j : Int) : List (Int × Int) × List (List Int) := bfsN (succP A B) (0, 0) (A.length * B.length) 0 ([(i, j)], [[]])
theorem codeP_lt {A B : List (List Int)} {s : Int × Int} (h : VP A B s) : codeP B s < A.length * B.length := by
  unfold VP at h; unfold codeP
  have h1 : s.1.toNat + 1 ≤ A.length := by omega
  have h2 := Nat.mul_le_mul_right B.length h1
  rw [Nat.add_mul] at h2
  omega
theorem codeP_inj {A B : List (List Int)} {s t : Int × Int} (h : VP A B s) (k : VP A B t) (e : codeP B s = codeP B t) : s = t := by
  unfold VP at h k; unfold codeP at e
  have hb : 0 < B.length := by omega
  have e1 : (s.1.toNat * B.length + s.2.toNat) / B.length = s.1.toNat := by
    rw [Nat.mul_comm, Nat.mul_add_div hb, Nat.div_eq_of_lt (by omega)]; omega
  have e2 : (t.1.toNat * B.length + t.2.toNat) / B.length = t.1.toNat := by
    rw [Nat.mul_comm, Nat.mul_add_div hb, Nat.div_eq_of_lt (by omega)]; omega
  have e3 : s.1.toNat = t.1.toNat := by rw [← e1, ← e2, e]
  rw [e3] at e
  obtain ⟨a, b⟩ := s
  obtain ⟨c, d⟩ := t
  simp only at *
  have : a = c := by omega
  have : b = d := by omega
  simp [*]
theorem getD_mem {l : List (List Int)} {i : Nat} (h : i < l.length) : l.getD i [] ∈ l := by
  rw [List.getD_eq_getElem?_getD, List.getElem?_eq_getElem h]; exact List.getElem_mem _
theorem TwoOk.succ {L : Int} {A B : List (List Int)} (h : TwoOk L A B) : ∀ x, VP A B x → ∀ t ∈ succP A B x, VP A B t := by
  rintro ⟨a, b⟩ hx ⟨c, d⟩ ht
  unfold VP at hx
  simp only at hx
  unfold succP at ht
  have h1 := (h.2.1.2 _ (getD_mem (show a.toNat < A.length by omega))).2 c (List.of_mem_zip ht).1
  have h2 := (h.2.2.2 _ (getD_mem (show b.toNat < B.length by omega))).2 d (List.of_mem_zip ht).2
  unfold VP; simp only; omega
theorem bfsP_end {L : Int} {A B : List (List Int)} (h : TwoOk L A B) {i j : Int} (hij : VP A B (i, j)) : BInv (succP A B) (VP A B) (i, j) (bfsP A B i j) ∧ Closed (succP A B) (bfsP A B i j).1.length (bfsP A B i j) :=
  bfs_end (0, 0) (codeP B) (A.length * B.length) h.succ (fun x hx => codeP_lt hx) (fun x y hx hy e => codeP_inj hx hy e) (A.length * B.length) 0 _ (by omega) (BInv.one hij) (fun j x hj => absurd hj (Nat.not_lt_zero _))
theorem BInv.shortP {A B : List (List Int)} {s : Int × Int} {p : List (Int × Int) × List (List Int)} (h : BInv (succP A B) (VP A B) s p) : p.1.length ≤ A.length * B.length :=
  nodup_bound (codeP B) (A.length * B.length) p.1 h.nodup (fun x hx => codeP_lt (h.valid x hx)) (fun x hx y hy e => codeP_inj (h.valid x hx) (h.valid y hy) e)
theorem mul_144 {a b : Nat} (h1 : a ≤ 12) (h2 : b ≤ 12) : a * b ≤ 144 := Nat.mul_le_mul h1 h2
/-- The pairs, as the program holds them. -/
def rep (S : List (Int × Int)) : List (List Int) := S.map fun s => [s.1, s.2]
theorem rep_at {S : List (Int × Int)} {i : Nat} {s : Int × Int} (h : S[i]? = some s) : rd_L1 (rep S) (i : Int) = [s.1, s.2] := by
  simp [rd_L1, rep, List.getD_eq_getElem?_getD, h]
/-- The marks say which pairs are in the list. -/
def MetOk (A B : List (List Int)) (S : List (Int × Int)) (met : List Bool) : Prop := met.length = A.length * B.length ∧ ∀ s, VP A B s → (met.getD (codeP B s) false = true ↔ s ∈ S)
theorem MetOk.push {A B : List (List Int)} {S : List (Int × Int)} {met : List Bool} (h : MetOk A B S met) {t : Int × Int} (ht : VP A B t) : MetOk A B (S ++ [t]) (met.set (codeP B t) true) := by
  refine ⟨by simp [h.1], fun s hs => ?_⟩
  have hl : codeP B t < met.length := by rw [h.1]; exact codeP_lt ht
  simp only [List.getD_eq_getElem?_getD, List.getElem?_set, List.mem_append, List.mem_singleton]
  by_cases e : codeP B t = codeP B s
  · have := codeP_inj ht hs e
    subst this
    simp [hl]
  · have hne : s ≠ t := fun e2 => e (by rw [e2])
    have := h.2 s hs
    rw [List.getD_eq_getElem?_getD] at this
    simp [e, hne, this]
end Go.Proofs.Ytadhbepoblllhaa.A
