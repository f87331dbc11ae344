/- What the printed helpers on numbers and on lists of numbers come to. -/
import Derived.Test.YtnccomklpfbcpaaYFnExactReadSymmetricPx1
import Derived.Test.YtnccomklpfbcpaaYFnExactReadSymmetricPx25
import Derived.Test.YtnccomklpfbcpaaYFnExactReadSymmetricPx27
import Derived.Test.YtnccomklpfbcpaaZFnExactReadSymmetric0
import Derived.Test.YtnccomklpfbcpaaYFnExactReadSymmetricPx8
import Derived.Test.YtnccomklpfbcpaaT
namespace Go.Proofs.Ytnccomklpfbcpaa.A
open Go.RowKit Go.Proofs.YtnccomklpfbcpaaW.PrintWords Go.Proofs.YtnccomklpfbcpaaW.PrintLast Go.Proofs.YtnccomklpfbcpaaW.PrintMore Go.Proofs.Ytnccomklpfbcpaa.P Go.Proofs.Ytnccomklpfbcpaa.T
set_option linter.unusedVariables false
set_option linter.unusedSimpArgs false

theorem rd_mid (pre : List Int) (y : Int) (suf : List Int) : rd (pre ++ y :: suf) (pre.length : Int) = y := by simp [rd]
/-- m, m + 1, .. -/
def iota : Int → Nat → List Int
  | _, 0 => []
  | m, n + 1 => m :: iota (m + 1) n
theorem iota_length (n : Nat) : ∀ m, (iota m n).length = n := by
  induction n with
  | zero => intro m; rfl
  | succ n ih => intro m; simp [iota, ih]
theorem in_f (a lo hi : Int) : spec_l1In.f a lo hi = some (decide (lo ≤ a ∧ a ≤ hi)) := by
  unfold spec_l1In.f
  by_cases h : a ≥ lo
  · rw [if_pos h]; simp [show lo ≤ a from h]
  · rw [if_neg h]; simp; omega
theorem szInts (l : List Int) (a : Int) (ha : 0 ≤ a ∧ a ≤ 1048576) (h : l.length ≤ maxLen) : laws_szIntS.f l a = some (if a - (l.length : Int) < 0 then -1 else a - (l.length : Int)) := by
  unfold laws_szIntS.f
  simp only [maxLen] at h
  rw [wrap_id (by omega) (by omega)]
  by_cases h1 : a - (l.length : Int) < 0
  · rw [if_pos h1, if_pos h1]
  · rw [if_neg h1, if_neg h1]
theorem toInts_loop (l : List Int) : ∀ (suf pre qsuf : List Int), l = pre ++ suf → l.length ≤ maxLen → qsuf.length = suf.length →
    Ev (fun k => laws_toIntS.l0 k l (pre ++ qsuf) (pre.length : Int)) l := by
  intro suf
  induction suf with
  | nil =>
    intro pre qsuf hl hm h2
    subst hl
    obtain rfl : qsuf = [] := List.length_eq_zero_iff.1 h2
    refine Ev.step (fun k => laws_toIntS.l0.eq_2 ..) ?_
    exact ev_neg (not_lt_end _) (ev_const rfl)
  | cons y suf ih =>
    intro pre qsuf hl hm h2
    subst hl
    obtain ⟨z, qsuf, rfl⟩ : ∃ z t, qsuf = z :: t := by cases qsuf with | nil => simp at h2 | cons z t => exact ⟨z, t, rfl⟩
    refine Ev.step (fun k => laws_toIntS.l0.eq_2 ..) ?_
    refine ev_pos (lt_mid _ _ _) (ev_pos (by omega) (ev_pos (lt_mid _ _ _) ?_))
    rw [next_mid _ _ _ hm, set_mid, rd_mid]
    exact ih (pre ++ [y]) qsuf (assoc_mid _ _ _) hm (by simpa using h2)
theorem toInts (l : List Int) (h : l.length ≤ 1048576) : Ev (fun k => laws_toIntS.f k l) l := by
  have := toInts_loop l l [] (List.replicate l.length 0) rfl (by simp only [maxLen]; omega) (by simp)
  unfold laws_toIntS.f
  refine ev_pos (by omega) (ev_pos (by simp; omega) ?_)
  simpa using this
theorem eqInts_loop (l : List Int) : ∀ (suf pre : List Int), l = pre ++ suf → l.length ≤ maxLen → Ev (fun k => laws_eqIntS.l0 k l l (pre.length : Int)) true := by
  intro suf
  induction suf with
  | nil =>
    intro pre hl hm
    subst hl
    refine Ev.step (fun k => laws_eqIntS.l0.eq_2 ..) ?_
    exact ev_neg (not_lt_end _) (ev_const rfl)
  | cons y suf ih =>
    intro pre hl hm
    subst hl
    refine Ev.step (fun k => laws_eqIntS.l0.eq_2 ..) ?_
    refine ev_pos (lt_mid _ _ _) (ev_pos (by omega) (ev_pos (lt_mid _ _ _) (ev_pos rfl ?_)))
    rw [next_mid _ _ _ hm]
    exact ih (pre ++ [y]) (assoc_mid _ _ _) hm
theorem eqInts (l : List Int) (h : l.length ≤ maxLen) : Ev (fun k => laws_eqIntS.f k l l) true := by
  unfold laws_eqIntS.f
  exact ev_pos rfl (eqInts_loop l l [] rfl h)
theorem markInts_loop : ∀ (suf pre : List Int) (m : Int), (pre ++ suf).length ≤ maxLen → 0 ≤ m → m + (suf.length : Int) ≤ 9223372036854775807 →
    Ev (fun k => laws_markIntS.l0 k (pre ++ suf) m (pre.length : Int)) (m + (suf.length : Int), pre ++ iota m suf.length) := by
  intro suf
  induction suf with
  | nil =>
    intro pre m hm h0 h1
    refine Ev.step (fun k => laws_markIntS.l0.eq_2 ..) ?_
    exact ev_neg (not_lt_end _) (ev_const (by simp [iota]))
  | cons y suf ih =>
    intro pre m hm h0 h1
    simp only [List.length_cons, Int.natCast_add, Int.natCast_one] at h1
    refine Ev.step (fun k => laws_markIntS.l0.eq_2 ..) ?_
    refine ev_pos (lt_mid _ _ _) (ev_pos (by omega) ?_)
    rw [next_mid _ _ _ hm, set_mid, wrap_id (x := m + 1) (by omega) (by omega)]
    have := ih (pre ++ [m]) (m + 1) (by simpa using hm) (by omega) (by omega)
    rw [show ((pre ++ [m]).length : Int) = ((pre ++ [y]).length : Int) by simp] at this
    rw [show (m + ((y :: suf).length : Int), pre ++ iota m (y :: suf).length) = (m + 1 + (suf.length : Int), pre ++ [m] ++ iota (m + 1) suf.length) by simp [iota]; omega]
    exact this
theorem markInts (l : List Int) (m : Int) (h : l.length ≤ maxLen) (h0 : 0 ≤ m) (h1 : m + (l.length : Int) ≤ 9223372036854775807) : Ev (fun k => laws_markIntS.f k l m) (m + (l.length : Int), iota m l.length) := by
  unfold laws_markIntS.f
  exact markInts_loop l [] m h h0 h1
theorem heldInts_loop : ∀ (n : Nat) (pre : List Int) (m : Int), (pre ++ iota m n).length ≤ maxLen → 0 ≤ m → m + (n : Int) ≤ 9223372036854775807 →
    Ev (fun k => laws_heldIntS.l0 k (pre ++ iota m n) m (pre.length : Int)) (m + (n : Int)) := by
  intro n
  induction n with
  | zero =>
    intro pre m hm h0 h1
    refine Ev.step (fun k => laws_heldIntS.l0.eq_2 ..) ?_
    exact ev_neg (not_lt_end _) (ev_const (by simp))
  | succ n ih =>
    intro pre m hm h0 h1
    refine Ev.step (fun k => laws_heldIntS.l0.eq_2 ..) ?_
    simp only [iota] at hm ⊢
    refine ev_pos (lt_mid _ _ _) (ev_pos (by omega) (ev_pos (rd_mid _ _ _) ?_))
    rw [next_mid _ _ _ hm, wrap_id (x := m + 1) (by omega) (by omega), assoc_mid]
    have := ih (pre ++ [m]) (m + 1) (by simpa using hm) (by omega) (by omega)
    rw [show m + ((n + 1 : Nat) : Int) = m + 1 + (n : Int) by omega]
    exact this
theorem heldInts (n : Nat) (m : Int) (h : n ≤ maxLen) (h0 : 0 ≤ m) (h1 : m + (n : Int) ≤ 9223372036854775807) : Ev (fun k => laws_heldIntS.f k (iota m n) m) (m + (n : Int)) := by
  unfold laws_heldIntS.f
  exact heldInts_loop n [] m (by simpa [iota_length] using h) h0 h1
theorem l1All_loop (lo hi : Int) (l : List Int) (hm : l.length ≤ maxLen) : ∀ (suf pre : List Int), l = pre ++ suf →
    Ev (fun k => spec_l1All.l0 k lo hi l (l.length : Int) (pre.length : Int)) (decide (∀ x ∈ suf, lo ≤ x ∧ x ≤ hi)) := by
  intro suf
  induction suf with
  | nil =>
    intro pre hl
    subst hl
    refine Ev.step (fun k => spec_l1All.l0.eq_2 ..) ?_
    exact ev_neg (not_lt_end _) (ev_const (by simp))
  | cons y suf ih =>
    intro pre hl
    subst hl
    refine Ev.step (fun k => spec_l1All.l0.eq_2 ..) ?_
    refine ev_pos (lt_mid _ _ _) (ev_pos (by omega) (ev_pos (lt_mid _ _ _) ?_))
    simp only [in_f, rd_mid, Option.bind_some, decide_eq_true_eq]
    by_cases h : lo ≤ y ∧ y ≤ hi
    · refine ev_pos h ?_
      rw [next_mid _ _ _ hm]
      have := ih (pre ++ [y]) (assoc_mid _ _ _)
      rw [show decide (∀ x ∈ y :: suf, lo ≤ x ∧ x ≤ hi) = decide (∀ x ∈ suf, lo ≤ x ∧ x ≤ hi) by rw [decide_eq_decide]; simp [h]]
      exact this
    · refine ev_neg h (ev_const ?_)
      rw [show decide (∀ x ∈ y :: suf, lo ≤ x ∧ x ≤ hi) = false from decide_eq_false (fun hh => h (hh y List.mem_cons_self))]
theorem l1All (l : List Int) (lo hi : Int) (hm : l.length ≤ maxLen) : Ev (fun k => spec_l1All.f k l lo hi) (decide (∀ x ∈ l, lo ≤ x ∧ x ≤ hi)) := by
  unfold spec_l1All.f
  exact l1All_loop lo hi l hm l [] rfl
theorem l1Own (l : List Int) (hm : l.length < 17592186044416) : spec_l1Own.f l = some l := by
  unfold spec_l1Own.f
  simp [hm]
end Go.Proofs.Ytnccomklpfbcpaa.A
