/- What the printed functions on cells and boards come to: copies, comparison, marks, and the tests whether a board is valid. -/
import Derived.Test.YtnccomklpfbcpaaZFnExactReadSymmetric0
import Derived.Test.YtnccomklpfbcpaaYFnExactReadSymmetricPx53
import Derived.Test.YtnccomklpfbcpaaYFnExactReadSymmetricPx54
import Derived.Test.YtnccomklpfbcpaaYFnExactReadSymmetricPx55
import Derived.Test.YtnccomklpfbcpaaYFnExactReadSymmetricPx56
import Derived.Test.YtnccomklpfbcpaaYFnExactReadSymmetricPx57
import Derived.Test.YtnccomklpfbcpaaYFnExactReadSymmetricPx29
import Derived.Test.YtnccomklpfbcpaaYFnExactReadSymmetricPx32
import Derived.Test.YtnccomklpfbcpaaYFnExactReadSymmetricABase
namespace Go.Proofs.Ytnccomklpfbcpaa.A
open Go.RowKit Go.Proofs.YtnccomklpfbcpaaW.PrintWords Go.Proofs.YtnccomklpfbcpaaW.PrintLast Go.Proofs.YtnccomklpfbcpaaW.PrintMore Go.Proofs.Ytnccomklpfbcpaa.P Go.Proofs.Ytnccomklpfbcpaa.T
set_option linter.unusedVariables false
set_option linter.unusedSimpArgs false

theorem rdc_mid (pre : List S72) (y : S72) (suf : List S72) : rd_T72 (pre ++ y :: suf) (pre.length : Int) = y := by simp [rd_T72]
theorem eqCells_loop (l : List S72) : ∀ (suf pre : List S72), l = pre ++ suf → l.length ≤ maxLen → Ev (fun k => laws_eqCellS.l0 k l l (pre.length : Int)) true := by
  intro suf
  induction suf with
  | nil =>
    intro pre hl hm
    subst hl
    refine Ev.step (fun k => laws_eqCellS.l0.eq_2 ..) ?_
    refine ev_neg (not_lt_end _) (ev_const rfl)
  | cons y suf ih =>
    intro pre hl hm
    subst hl
    refine Ev.step (fun k => laws_eqCellS.l0.eq_2 ..) ?_
    refine ev_pos (lt_mid _ _ _) (ev_pos (by omega) (ev_pos (lt_mid _ _ _) ?_))
    simp only [laws_eqCell.f, if_true, Option.bind_some]
    rw [next_mid _ _ _ hm]
    exact ih (pre ++ [y]) (assoc_mid _ _ _) hm
theorem eqCells (l : List S72) (h : l.length ≤ maxLen) : Ev (fun k => laws_eqCellS.f k l l) true := by
  unfold laws_eqCellS.f
  exact ev_pos rfl (eqCells_loop l l [] rfl h)
theorem eqBo (a b : Int) (l : List S72) (h : l.length ≤ maxLen) : Ev (fun k => laws_eqBoard.f k a b l a b l) true := by
  unfold laws_eqBoard.f
  exact ev_pos rfl (ev_pos rfl (ev_bind (eqCells l h) (ev_const rfl)))
def iotaC : Int → Nat → List S72
  | _, 0 => []
  | m, n + 1 => ⟨m, m + 1⟩ :: iotaC (m + 2) n
theorem iotaC_length (n : Nat) : ∀ m, (iotaC m n).length = n := by
  induction n with
  | zero => intro m; rfl
  | succ n ih => intro m; simp [iotaC, ih]
theorem markCells_loop : ∀ (suf pre : List S72) (m : Int), (pre ++ suf).length ≤ maxLen → 0 ≤ m → m + 2 * (suf.length : Int) ≤ 9223372036854775807 →
    Ev (fun k => laws_markCellS.l0 k (pre ++ suf) m (pre.length : Int)) (m + 2 * (suf.length : Int), pre ++ iotaC m suf.length) := by
  intro suf
  induction suf with
  | nil =>
    intro pre m hm h0 h1
    refine Ev.step (fun k => laws_markCellS.l0.eq_2 ..) ?_
    exact ev_neg (not_lt_end _) (ev_const (by simp [iotaC]))
  | cons y suf ih =>
    intro pre m hm h0 h1
    simp only [List.length_cons, Int.natCast_add, Int.natCast_one] at h1
    refine Ev.step (fun k => laws_markCellS.l0.eq_2 ..) ?_
    refine ev_pos (lt_mid _ _ _) (ev_pos (by omega) ?_)
    simp only [Option.bind_some]
    rw [next_mid _ _ _ hm, set_mid, List.append_assoc, List.singleton_append]
    simp only [rdc_mid]
    rw [set_mid, wrap_id (x := m + 1) (by omega) (by omega), wrap_id (x := m + 1 + 1) (by omega) (by omega)]
    have := ih (pre ++ [⟨m, m + 1⟩]) (m + 2) (by simpa using hm) (by omega) (by omega)
    rw [show ((pre ++ [(⟨m, m + 1⟩ : S72)]).length : Int) = ((pre ++ [y]).length : Int) by simp] at this
    rw [show (m + 2 * ((y :: suf).length : Int), pre ++ iotaC m (y :: suf).length) = (m + 2 + 2 * (suf.length : Int), pre ++ [(⟨m, m + 1⟩ : S72)] ++ iotaC (m + 2) suf.length) by simp [iotaC]; omega, show m + 1 + 1 = m + 2 by omega]
    exact this
theorem markBo (a b : Int) (l : List S72) (m : Int) (h : l.length ≤ maxLen) (h0 : 0 ≤ m) (h1 : m + 2 * (l.length : Int) ≤ 9223372036854775807) : Ev (fun k => laws_markBoard.f k a b l m) (m + 2 * (l.length : Int), iotaC m l.length) := by
  unfold laws_markBoard.f laws_markCellS.f
  exact ev_bind (markCells_loop l [] m h h0 h1) (ev_const rfl)
theorem heldCells_loop : ∀ (n : Nat) (pre : List S72) (m : Int), (pre ++ iotaC m n).length ≤ maxLen → 0 ≤ m → m + 2 * (n : Int) ≤ 9223372036854775807 →
    Ev (fun k => laws_heldCellS.l0 k (pre ++ iotaC m n) m (pre.length : Int)) (m + 2 * (n : Int)) := by
  intro n
  induction n with
  | zero =>
    intro pre m hm h0 h1
    refine Ev.step (fun k => laws_heldCellS.l0.eq_2 ..) ?_
    exact ev_neg (not_lt_end _) (ev_const (by simp))
  | succ n ih =>
    intro pre m hm h0 h1
    refine Ev.step (fun k => laws_heldCellS.l0.eq_2 ..) ?_
    simp only [iotaC] at hm ⊢
    refine ev_pos (lt_mid _ _ _) (ev_pos (by omega) ?_)
    have w1 : wrap64 (m + 1) = m + 1 := wrap_id (by omega) (by omega)
    have w2 : wrap64 (m + 1 + 1) = m + 2 := (wrap_id (by omega) (by omega)).trans (by omega)
    simp only [rdc_mid, w1, w2, if_true]
    rw [next_mid _ _ _ hm, assoc_mid]
    have := ih (pre ++ [⟨m, m + 1⟩]) (m + 2) (by simpa using hm) (by omega) (by omega)
    rw [show m + 2 * ((n + 1 : Nat) : Int) = m + 2 + 2 * (n : Int) by omega]
    exact this
theorem heldBo (a b : Int) (n : Nat) (m : Int) (h : n ≤ maxLen) (h0 : 0 ≤ m) (h1 : m + 2 * (n : Int) ≤ 9223372036854775807) : Ev (fun k => laws_heldBoard.f k a b (iotaC m n) m) (m + 2 * (n : Int)) := by
  unfold laws_heldBoard.f laws_heldCellS.f
  exact ev_bind (heldCells_loop n [] m (by simpa [iotaC_length] using h) h0 h1) (ev_neg (by omega) (ev_const rfl))
def CellOk (a b : Int) : Prop := (0 ≤ a ∧ a ≤ 7) ∧ (b = 0 ∨ b = 1 ∧ (a = 3 ∨ a = 6))
instance (a b : Int) : Decidable (CellOk a b) := by unfold CellOk; infer_instance
def BoOk (r c : Int) (l : List S72) : Prop := (1 ≤ r ∧ r ≤ 10) ∧ (1 ≤ c ∧ c ≤ 9) ∧ (l.length : Int) = r * c ∧ ∀ x ∈ l, CellOk x.f0 x.f1
instance (r c : Int) (l : List S72) : Decidable (BoOk r c l) := by unfold BoOk; infer_instance
theorem mul_small {r c : Int} (h1 : 1 ≤ r ∧ r ≤ 10) (h2 : 1 ≤ c ∧ c ≤ 9) : 1 ≤ r * c ∧ r * c ≤ 90 := by
  have h : r = 1 ∨ r = 2 ∨ r = 3 ∨ r = 4 ∨ r = 5 ∨ r = 6 ∨ r = 7 ∨ r = 8 ∨ r = 9 ∨ r = 10 := by omega
  rcases h with rfl | rfl | rfl | rfl | rfl | rfl | rfl | rfl | rfl | rfl <;> omega
theorem BoOk.len {r c : Int} {l : List S72} (h : BoOk r c l) : l.length ≤ 90 := by
  have := mul_small h.1 h.2.1
  have := h.2.2.1
  omega
def kindCount (j : Int) (l : List S72) : Int := ((l.filter fun x => x.f0 = j).length : Int)
theorem kindCount_cons (j : Int) (y : S72) (l : List S72) : kindCount j (y :: l) = (if y.f0 = j then 1 else 0) + kindCount j l := by
  unfold kindCount
  by_cases h : y.f0 = j
  · rw [List.filter_cons_of_pos (by simpa using h), if_pos h]; simp; omega
  · rw [List.filter_cons_of_neg (by simpa using h), if_neg h]; omega
theorem kindCount_rest (l : List S72) : (l.length : Int) = kindCount 0 l + ((l.filter fun x => x.f0 ≠ 0).length : Int) := by
  induction l with
  | nil => simp [kindCount]
  | cons y l ih =>
    rw [kindCount_cons]
    by_cases h : y.f0 = 0
    · rw [if_pos h, List.filter_cons_of_neg (by simpa using h)]; simp only [List.length_cons]; omega
    · rw [if_neg h, List.filter_cons_of_pos (by simpa using h)]; simp only [List.length_cons]; omega
theorem boParts_loop (l : List S72) (hm : l.length ≤ maxLen) : ∀ (suf pre : List S72) (cnt : List Int) (B : Int), l = pre ++ suf → (∀ x ∈ suf, 0 ≤ x.f0 ∧ x.f0 ≤ 7) → cnt.length = 8 → (∀ j : Nat, j < 8 → 0 ≤ cnt.getD j 0 ∧ cnt.getD j 0 ≤ B) → B + (suf.length : Int) ≤ 1000 →
    ∃ r, Ev (fun k => spec_boParts.l0 k cnt l (l.length : Int) (pre.length : Int)) r ∧ r.length = 8 ∧ ∀ j : Nat, j < 8 → r.getD j 0 = cnt.getD j 0 + kindCount j suf := by
  intro suf
  induction suf with
  | nil =>
    intro pre cnt B hl hx hc hb hB
    subst hl
    exact ⟨cnt, Ev.step (fun k => spec_boParts.l0.eq_2 ..) (ev_neg (not_lt_end _) (ev_const rfl)), hc, fun j hj => by simp [kindCount]⟩
  | cons y suf ih =>
    intro pre cnt B hl hx hc hb hB
    subst hl
    obtain ⟨hy0, hy7⟩ := hx y List.mem_cons_self
    obtain ⟨n, hn⟩ : ∃ n : Nat, y.f0 = n := ⟨y.f0.toNat, by omega⟩
    have hn8 : n < 8 := by omega
    have hbn := hb n hn8
    simp only [List.length_cons, Int.natCast_add, Int.natCast_one] at hB
    obtain ⟨r, hr, hr8, hrj⟩ := ih (pre ++ [y]) (cnt.set n (cnt.getD n 0 + 1)) (B + 1) (assoc_mid _ _ _) (fun x h => hx x (List.mem_cons_of_mem _ h)) (by simpa using hc) (by
      intro j hj
      have := hb j hj
      by_cases e : n = j
      · subst e
        rw [List.getD_eq_getElem?_getD, List.getElem?_set_self (by omega)]
        simp only [Option.getD_some]
        omega
      · rw [List.getD_eq_getElem?_getD, List.getElem?_set_ne e, ← List.getD_eq_getElem?_getD]
        omega) (by omega)
    refine ⟨r, ?_, hr8, ?_⟩
    · refine Ev.step (fun k => spec_boParts.l0.eq_2 ..) (ev_pos (lt_mid _ _ _) (ev_pos (by omega) (ev_pos (lt_mid _ _ _) ?_)))
      simp only [rdc_mid, hn]
      refine ev_pos (by omega) (ev_pos (by omega) ?_)
      rw [next_mid _ _ _ hm]
      rw [show rd cnt (n : Int) = cnt.getD n 0 by simp [rd], wrap_id (by omega) (by omega), Int.toNat_natCast]
      exact hr
    · intro j hj
      rw [hrj j hj, kindCount_cons]
      by_cases e : n = j
      · subst e
        rw [List.getD_eq_getElem?_getD, List.getElem?_set_self (by omega), if_pos hn]
        simp only [Option.getD_some]
        omega
      · rw [List.getD_eq_getElem?_getD, List.getElem?_set_ne e, ← List.getD_eq_getElem?_getD, if_neg (by omega)]
        omega
theorem rep0 (n j : Nat) (h : j < n) : (List.replicate n (0 : Int)).getD j 0 = 0 := by
  rw [List.getD_eq_getElem?_getD, List.getElem?_replicate, if_pos h]; rfl
theorem boParts (r c : Int) (l : List S72) (h : BoOk r c l) : ∃ ps, Ev (fun k => spec_boParts.f k r c l) ps ∧ ps.length = 8 ∧ ∀ j : Nat, j < 8 → ps.getD j 0 = kindCount j l := by
  have h90 := h.len
  obtain ⟨ps, h1, h2, h3⟩ := boParts_loop l (by simp only [maxLen]; omega) l [] (List.replicate 8 0) 0 rfl (fun x hx => (h.2.2.2 x hx).1) (by simp) (by
    intro j hj
    rw [rep0 8 j hj]; omega) (by omega)
  refine ⟨ps, ?_, h2, ?_⟩
  · unfold spec_boParts.f
    exact ev_pos (by omega) h1
  · intro j hj
    rw [h3 j hj, rep0 8 j hj, Int.zero_add]
theorem partsOf_loop (l : List S72) (hm : l.length ≤ 1000) : ∀ (suf pre : List S72) (n : Nat), l = pre ++ suf → n ≤ pre.length →
    Ev (fun k => impl_partsOf.l0 k n l (l.length : Int) (pre.length : Int)) ((n : Int) + ((suf.filter fun x => x.f0 ≠ 0).length : Int)) := by
  have hmx : l.length ≤ maxLen := by simp only [maxLen]; omega
  intro suf
  induction suf with
  | nil =>
    intro pre n hl hn
    subst hl
    exact Ev.step (fun k => impl_partsOf.l0.eq_2 ..) (ev_neg (not_lt_end _) (ev_const (by simp)))
  | cons y suf ih =>
    intro pre n hl hn
    subst hl
    refine Ev.step (fun k => impl_partsOf.l0.eq_2 ..) (ev_pos (lt_mid _ _ _) (ev_pos (by omega) (ev_pos (lt_mid _ _ _) ?_)))
    simp only [rdc_mid]
    rw [next_mid _ _ _ hmx]
    simp only [List.length_append, List.length_cons] at hm
    by_cases h : y.f0 = 0
    · refine ev_pos h ?_
      have := ih (pre ++ [y]) n (assoc_mid _ _ _) (by simp; omega)
      rw [List.filter_cons_of_neg (by simpa using h)]
      exact this
    · refine ev_neg h ?_
      have := ih (pre ++ [y]) (n + 1) (assoc_mid _ _ _) (by simp; omega)
      rw [List.filter_cons_of_pos (by simpa using h), wrap_id (x := (n : Int) + 1) (by omega) (by omega)]
      rw [show ((n : Int) + ((y :: suf.filter fun x => x.f0 ≠ 0).length : Int)) = ((n + 1 : Nat) : Int) + ((suf.filter fun x => x.f0 ≠ 0).length : Int) by simp; omega]
      exact this
theorem partsOf (r c : Int) (l : List S72) (hm : l.length ≤ 1000) : Ev (fun k => impl_partsOf.f k r c l) ((l.filter fun x => x.f0 ≠ 0).length : Int) := by
  unfold impl_partsOf.f
  have := partsOf_loop l hm l [] 0 rfl (Nat.zero_le _)
  simpa using this
end Go.Proofs.Ytnccomklpfbcpaa.A
