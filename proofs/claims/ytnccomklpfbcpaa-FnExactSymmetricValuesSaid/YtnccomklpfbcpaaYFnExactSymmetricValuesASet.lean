/- What the printed functions that set the flips of a counting board come to. -/
import Derived.Test.YtnccomklpfbcpaaYFnExactSymmetricValuesPx70
import Derived.Test.YtnccomklpfbcpaaYFnExactSymmetricValuesPx15
import Derived.Test.YtnccomklpfbcpaaYFnExactSymmetricValuesABo
namespace Go.Proofs.Ytnccomklpfbcpaa.A
open Go.RowKit Go.Proofs.YtnccomklpfbcpaaW.PrintWords Go.Proofs.YtnccomklpfbcpaaW.PrintLast Go.Proofs.YtnccomklpfbcpaaW.PrintMore Go.Proofs.Ytnccomklpfbcpaa.P Go.Proofs.Ytnccomklpfbcpaa.T
set_option linter.unusedVariables false
set_option linter.unusedSimpArgs false

/-- The cells from place i on, each flip with the state that its row's input says. -/
def setGo (c : Int) (xs : List Int) : Int → List S72 → List S72
  | _, [] => []
  | i, y :: l => (if y.f0 = 3 then ⟨y.f0, rd xs (i / c)⟩ else y) :: setGo c xs (i + 1) l
theorem setGo_length (c : Int) (xs : List Int) : ∀ (l : List S72) (i : Int), (setGo c xs i l).length = l.length := by
  intro l
  induction l with
  | nil => intro i; rfl
  | cons y l ih => intro i; simp [setGo, ih]
theorem div_row {i c n : Int} (h0 : 0 ≤ i) (hc : 1 ≤ c) (h : i < n * c) (hn : n ≤ 100) : wrap64 (Int.tdiv i c) = i / c ∧ 0 ≤ i / c ∧ i / c < n := by
  have h1 : 0 ≤ i / c := Int.ediv_nonneg h0 (by omega)
  have h2 : i / c < n := Int.ediv_lt_of_lt_mul (by omega) h
  rw [Int.tdiv_eq_ediv_of_nonneg h0, wrap_id (by omega) (by omega)]
  exact ⟨rfl, h1, h2⟩
def SetOk (r c : Int) (l : List S72) (xs : List Int) : Prop := BoOk r c l ∧ (1 ≤ (xs.length : Int) ∧ (xs.length : Int) ≤ 4) ∧ (∀ x ∈ xs, 0 ≤ x ∧ x ≤ 1) ∧ r = xs.length ∧ c = 2 * (xs.length : Int) + 1
instance (r c : Int) (l : List S72) (xs : List Int) : Decidable (SetOk r c l xs) := by unfold SetOk; infer_instance
def setB (r c : Int) (l : List S72) (xs : List Int) : Int × Int × List S72 × Bool := if SetOk r c l xs then (r, c, setGo c xs 0 l, true) else (0, 0, [], false)
theorem setB_len (r c : Int) (l : List S72) (xs : List Int) : (setB r c l xs).2.2.1.length ≤ 90 := by
  unfold setB
  split
  · rename_i h; rw [setGo_length]; exact h.1.len
  · simp
theorem cbSet_loop {r c : Int} (xs : List Int) (l : List S72) (hc : 1 ≤ c) (hn : xs.length ≤ 10) (hl : (l.length : Int) = xs.length * c) (hm : l.length ≤ 90) : ∀ (suf pre done : List S72), l = pre ++ suf → done.length = pre.length →
    Ev (fun k => spec_cbSet.l0 k xs l (l.length : Int) (pre.length : Int) r c l r c (done ++ suf)) (r, c, done ++ setGo c xs pre.length suf) := by
  intro suf
  induction suf with
  | nil =>
    intro pre done h1 h2
    subst h1
    exact Ev.step (fun k => spec_cbSet.l0.eq_2 ..) (ev_neg (by simp) (ev_const (by simp [setGo])))
  | cons y suf ih =>
    intro pre done h1 h2
    subst h1
    have hlt := lt_mid pre y suf
    obtain ⟨d1, d2, d3⟩ := div_row (i := (pre.length : Int)) (by omega) hc (hl ▸ hlt) (by omega)
    refine Ev.step (fun k => spec_cbSet.l0.eq_2 ..) (ev_pos hlt (ev_pos (by omega) (ev_pos hlt ?_)))
    rw [rdc_mid]
    have hnx := next_mid pre y suf (by simp only [maxLen]; omega)
    have hrd : rd_T72 (done ++ y :: suf) (pre.length : Int) = y := by rw [← h2]; exact rdc_mid done y suf
    by_cases h3 : y.f0 = 3
    · refine ev_pos h3 (ev_neg (by omega) (ev_pos (by rw [d1]; exact d2) (ev_pos (by rw [d1]; exact d3) (ev_pos (by rw [← h2]; exact lt_mid _ _ _) ?_))))
      rw [hrd, d1, hnx]
      have := ih (pre ++ [y]) (done ++ [⟨y.f0, rd xs (pre.length / c)⟩]) (assoc_mid _ _ _) (by simp [h2])
      rw [show (done ++ y :: suf).set ((pre.length : Int)).toNat ⟨y.f0, rd xs (pre.length / c)⟩ = (done ++ [⟨y.f0, rd xs (pre.length / c)⟩]) ++ suf by rw [← h2]; exact set_mid _ _ _ _]
      simpa [setGo, h3] using this
    · refine ev_neg h3 ?_
      rw [hnx]
      have := ih (pre ++ [y]) (done ++ [y]) (assoc_mid _ _ _) (by simp [h2])
      simpa [setGo, h3] using this
theorem cbSet {r c : Int} (xs : List Int) (l : List S72) (hc : 1 ≤ c) (hn : xs.length ≤ 10) (hl : (l.length : Int) = xs.length * c) (hm : l.length ≤ 90) : Ev (fun k => spec_cbSet.f k r c l xs) (r, c, setGo c xs 0 l) := by
  unfold spec_cbSet.f
  refine ev_bindc (a := (r, c, l)) ?_ (cbSet_loop (r := r) xs l hc hn hl hm l [] [] rfl rfl)
  unfold spec_boOwn.f
  rw [Option.bind_some, if_pos (by simp; omega)]; rfl
theorem areBits_loop (l : List Int) (hm : l.length ≤ maxLen) : ∀ (suf pre : List Int), l = pre ++ suf →
    Ev (fun k => impl_areBits.l0 k l (l.length : Int) (pre.length : Int)) (decide (∀ x ∈ suf, 0 ≤ x ∧ x ≤ 1)) := by
  intro suf
  induction suf with
  | nil =>
    intro pre h1
    subst h1
    exact Ev.step (fun k => impl_areBits.l0.eq_2 ..) (ev_neg (by simp) (ev_const (by simp)))
  | cons y suf ih =>
    intro pre h1
    subst h1
    have hlt := lt_mid pre y suf
    have hrest := ih (pre ++ [y]) (assoc_mid _ _ _)
    refine Ev.step (fun k => impl_areBits.l0.eq_2 ..) (ev_pos hlt (ev_pos (by omega) (ev_pos hlt ?_)))
    rw [rd_mid, next_mid pre y suf hm]
    by_cases h0 : y = 0
    · refine ev_pos h0 ?_
      rw [show decide (∀ x ∈ y :: suf, 0 ≤ x ∧ x ≤ 1) = decide (∀ x ∈ suf, 0 ≤ x ∧ x ≤ 1) by simp [h0]]
      exact hrest
    refine ev_neg h0 ?_
    by_cases h1 : y = 1
    · refine ev_pos h1 ?_
      rw [show decide (∀ x ∈ y :: suf, 0 ≤ x ∧ x ≤ 1) = decide (∀ x ∈ suf, 0 ≤ x ∧ x ≤ 1) by simp [h1]]
      exact hrest
    refine ev_neg h1 (ev_const ?_)
    rw [decide_eq_false]
    intro h
    have := h y List.mem_cons_self
    omega
theorem areBits (l : List Int) (hm : l.length ≤ maxLen) : Ev (fun k => impl_areBits.f k l) (decide (∀ x ∈ l, 0 ≤ x ∧ x ≤ 1)) := by
  unfold impl_areBits.f
  exact areBits_loop l hm l [] rfl
end Go.Proofs.Ytnccomklpfbcpaa.A
