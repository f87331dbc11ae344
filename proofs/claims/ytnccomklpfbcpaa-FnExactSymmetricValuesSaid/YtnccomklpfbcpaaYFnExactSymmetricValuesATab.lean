/- Tables: the guard, the copy, the marks, whether a table is good (both programs), and what the sorting board of a good one is. -/
import Derived.Test.YtnccomklpfbcpaaZFnExactSymmetricValues0
import Derived.Test.YtnccomklpfbcpaaYFnExactSymmetricValuesPx7
import Derived.Test.YtnccomklpfbcpaaYFnExactSymmetricValuesPx16
import Derived.Test.YtnccomklpfbcpaaYFnExactSymmetricValuesASet
import Derived.Test.YtnccomklpfbcpaaYFnExactSymmetricValuesVQ
namespace Go.Proofs.Ytnccomklpfbcpaa.A
open Go.RowKit Go.Proofs.YtnccomklpfbcpaaW.PrintWords Go.Proofs.YtnccomklpfbcpaaW.PrintLast Go.Proofs.YtnccomklpfbcpaaW.PrintMore Go.Proofs.Ytnccomklpfbcpaa.P Go.Proofs.Ytnccomklpfbcpaa.T
set_option linter.unusedVariables false
set_option linter.unusedSimpArgs false
theorem szTab (a : Int) (l : List Int) (h : l.length ≤ maxLen) : ∃ s, laws_szTable.f a l 1048576 = some s ∧ (0 ≤ s → l.length ≤ 1048576) := by
  refine ⟨if (1048576 : Int) - (l.length : Int) < 0 then -1 else 1048576 - (l.length : Int), ?_, ?_⟩
  · unfold laws_szTable.f
    rw [szInts l 1048576 (by omega) h]
    by_cases h1 : (1048576 : Int) - (l.length : Int) < 0
    · rw [if_pos h1]; rfl
    · rw [if_neg h1]
      show (if (1048576 : Int) - (l.length : Int) < 0 then some (-1) else some (1048576 - (l.length : Int))) = _
      rw [if_neg h1]
  · intro h1
    by_cases h2 : (1048576 : Int) - (l.length : Int) < 0
    · rw [if_pos h2] at h1; omega
    · omega
theorem toTab (a : Int) (l : List Int) (h : l.length ≤ 1048576) : Ev (fun k => laws_toTable.f k a l) (a, l) := by
  unfold laws_toTable.f
  exact ev_bind (toInts l h) (ev_const rfl)
theorem eqTab (a : Int) (l : List Int) (h : l.length ≤ maxLen) : Ev (fun k => laws_eqTable.f k a l a l) true := by
  unfold laws_eqTable.f
  exact ev_pos rfl (ev_bind (eqInts l h) (ev_pos rfl (ev_const rfl)))
theorem markTab (a : Int) (l : List Int) (h : l.length ≤ 1048576) : Ev (fun k => laws_markTable.f k a l 1) (1 + (l.length : Int), iota 1 l.length) := by
  unfold laws_markTable.f
  exact ev_bind (markInts l 1 (by simp only [maxLen]; omega) (by omega) (by omega)) (ev_const rfl)
/-- A table is good. -/
def TabOk (a : Int) (l : List Int) : Prop := (0 ≤ a ∧ a ≤ 4) ∧ l.length = 2 ^ a.toNat ∧ ∀ x ∈ l, 0 ≤ x ∧ x ≤ 1
instance (a : Int) (l : List Int) : Decidable (TabOk a l) := by unfold TabOk; infer_instance
theorem shlT : ∀ i : Fin 5, shl .i64 1 ((i.val : Nat) : Int) = ((2 ^ i.val : Nat) : Int) := by decide
theorem u64T : ∀ i : Fin 5, IntKind.u64.wrap ((i.val : Nat) : Int) = ((i.val : Nat) : Int) := by decide
theorem ttGood (a : Int) (l : List Int) (hm : l.length ≤ maxLen) : Ev (fun k => spec_ttGood.f k a l) (decide (TabOk a l)) := by
  unfold spec_ttGood.f
  refine ev_bindc (a := decide (0 ≤ a ∧ a ≤ 4)) (by unfold spec_ttInputs.f; rw [in_f]; rfl) ?_
  by_cases h : 0 ≤ a ∧ a ≤ 4
  · obtain ⟨i, rfl⟩ : ∃ i : Fin 5, a = ((i.val : Nat) : Int) := ⟨⟨a.toNat, by omega⟩, by simp; omega⟩
    rw [decide_eq_true h]
    refine ev_pos rfl ?_
    simp only [u64T, shlT]
    refine ev_pos (by omega) ?_
    by_cases h2 : l.length = 2 ^ i.val
    · refine ev_pos (by rw [h2]) (ev_bind (l1All l 0 1 hm) (ev_const ?_))
      congr 1
      simp [TabOk, h, h2]
      try (intro _; omega)
    · refine ev_neg (by omega) (ev_const ?_)
      congr 1
      simp [TabOk, h2]
  · rw [decide_eq_false h]
    exact ev_neg (by decide) (ev_const (by simp only [TabOk, h, false_and, decide_false]))
theorem cbSmall (a : Int) (l : List Int) (hm : l.length ≤ maxLen) : Ev (fun k => spec_cbSmall.f k a l) (decide (TabOk a l ∧ a ≤ 3)) := by
  unfold spec_cbSmall.f
  refine ev_bind (ttGood a l hm) ?_
  by_cases h : TabOk a l
  · exact ev_pos (by simpa using h) (ev_const (by simp [h]))
  · exact ev_neg (by simpa using h) (ev_const (by simp [h]))
theorem isTable (a : Int) (l : List Int) (hm : l.length ≤ maxLen) : Ev (fun k => impl_IsTable.f k a l) (decide (TabOk a l)) := by
  unfold impl_IsTable.f
  by_cases h : 0 ≤ a ∧ a ≤ 4
  · refine ev_pos h.1 (ev_pos h.2 (ev_pos h.1 ?_))
    obtain ⟨i, rfl⟩ : ∃ i : Fin 5, a = ((i.val : Nat) : Int) := ⟨⟨a.toNat, by omega⟩, by simp; omega⟩
    simp only [shlT]
    by_cases h2 : l.length = 2 ^ i.val
    · refine ev_pos (by rw [h2]) (ev_bind (areBits l hm) (ev_const ?_))
      congr 1
      simp [TabOk, h, h2]
      try (intro _; omega)
    · refine ev_neg (by omega) (ev_const ?_)
      congr 1
      simp [TabOk, h2]
  · have hf : decide (TabOk a l) = false := decide_eq_false (fun h_ => h h_.1)
    rw [hf]
    by_cases h1 : a ≥ 0
    · exact ev_pos h1 (ev_neg (by omega) (ev_const rfl))
    · exact ev_neg h1 (ev_const rfl)
theorem TabOk.sb {a : Int} {l : List Int} (h : TabOk a l) (h3 : a ≤ 3) : SbOk l := by
  obtain ⟨⟨h0, h4⟩, hl, hb⟩ := h
  have hbit : ∀ y ∈ l, y = 0 ∨ y = 1 := fun y hy => by have := hb y hy; omega
  have hc : a = 0 ∨ a = 1 ∨ a = 2 ∨ a = 3 := by omega
  have hn : l.length = 1 ∨ l.length = 2 ∨ l.length = 4 ∨ l.length = 8 := by
    rcases hc with rfl | rfl | rfl | rfl <;> simp at hl <;> omega
  exact ⟨⟨by omega, by omega⟩, hbit, within_ok l hn hbit⟩
theorem roundsL_len : ∀ (d r : Nat) (v e : List Int) (cs : List S72), (roundsL d r v e cs).2.2.2.length ≤ cs.length + d * v.length ∧ (roundsL d r v e cs).2.2.1.length = e.length := by
  intro d
  induction d with
  | zero => intro r v e cs; simp [roundsL]
  | succ d ih =>
    intro r v e cs
    have hp := passL_len v.length (r % 2) v e (List.replicate v.length ⟨0, 0⟩)
    simp only [roundsL]
    by_cases h1 : srtL (passL v.length (r % 2) v e (List.replicate v.length ⟨0, 0⟩)).1 = true
    · rw [if_pos h1]
      refine ⟨?_, hp.2.1⟩
      rw [List.length_append, hp.2.2, List.length_replicate, Nat.succ_mul]
      have := Nat.zero_le (d * v.length)
      omega
    · rw [if_neg h1]
      have h2 := ih (r + 1) (passL v.length (r % 2) v e (List.replicate v.length ⟨0, 0⟩)).1 (passL v.length (r % 2) v e (List.replicate v.length ⟨0, 0⟩)).2.1 (cs ++ (passL v.length (r % 2) v e (List.replicate v.length ⟨0, 0⟩)).2.2)
      rw [hp.1, List.length_append, hp.2.2, List.length_replicate, hp.2.1] at h2
      rw [Nat.succ_mul]
      exact ⟨by omega, h2.2⟩
theorem SbOk.len {l : List Int} (h : SbOk l) : (sbQ l).2.2.2.length ≤ 72 ∧ (sbQ l).2.2.1.length ≤ 8 := by
  have h1 := roundsL_len 9 0 l (iota 0 l.length) []
  have h2 := h.1.2
  rw [iota_length] at h1
  simp only [List.length_nil] at h1
  unfold sbQ
  omega
end Go.Proofs.Ytnccomklpfbcpaa.A
