/- What the printed functions on automata come to: sizes, copies, comparison, the tests whether an automaton or a word is valid, and the state to which a word leads. -/
import Derived.Test.YtkfedkckakegjaaDoorPx2
import Derived.Test.YtkfedkckakegjaaDoorPx3
import Derived.Test.YtkfedkckakegjaaDoorPx13
import Derived.Test.YtkfedkckakegjaaDoorPx14
import Derived.Test.YtkfedkckakegjaaDoorPx43
import Derived.Test.YtkfedkckakegjaaDoorPx44
import Derived.Test.YtkfedkckakegjaaDoorPx6
import Derived.Test.YtkfedkckakegjaaDoorPx7
import Derived.Test.YtkfedkckakegjaaDoorPx15
import Derived.Test.YtkfedkckakegjaaDoorABase
namespace Go.Proofs.YtkfedkckakegjaaDoor.A
open Go.RowKit YtkfedkckakegjaaDoorW.PrintWords YtkfedkckakegjaaDoorW.PrintLast YtkfedkckakegjaaDoorW.PrintMore P T
set_option linter.unusedVariables false
set_option linter.unusedSimpArgs false

theorem rdl_mid (pre : List (List Int)) (y : List Int) (suf : List (List Int)) : rd_L1 (pre ++ y :: suf) (pre.length : Int) = y := by simp [rd_L1]
theorem rd_mem {l : List Int} {i : Int} (h0 : 0 ≤ i) (h1 : i < l.length) : rd l i ∈ l := by
 obtain ⟨n, rfl⟩ := Int.eq_ofNat_of_zero_le h0
 simp only [rd, Int.toNat_natCast]
 rw [List.getD_eq_getElem?_getD, List.getElem?_eq_getElem (by omega)]
 exact List.getElem_mem _
theorem rdl_mem {l : List (List Int)} {i : Int} (h0 : 0 ≤ i) (h1 : i < l.length) : rd_L1 l i ∈ l := by
 obtain ⟨n, rfl⟩ := Int.eq_ofNat_of_zero_le h0
 simp only [rd_L1, Int.toNat_natCast]
 rw [List.getD_eq_getElem?_getD, List.getElem?_eq_getElem (by omega)]
 exact List.getElem_mem _
/-- What is left of a when the lengths of all rows are taken off it, -1 if it does not suffice. -/
def szRows : Int → List (List Int) → Int
 | a, [] => a
 | a, x :: l => if a - (x.length : Int) < 0 then -1 else szRows (a - (x.length : Int)) l
theorem szRows_le : ∀ (l : List (List Int)) (a : Int), 0 ≤ szRows a l → 0 ≤ a → szRows a l ≤ a ∧ ∀ x ∈ l, (x.length : Int) ≤ a := by
 intro l
 induction l with
 | nil => intro a h _; simp [szRows]
 | cons x l ih =>
  intro a h h0
  simp only [szRows] at h ⊢
  by_cases c : a - (x.length : Int) < 0
  ·rw [if_pos c] at h; omega
  ·rw [if_neg c] at h ⊢
   obtain ⟨h1, h2⟩ := ih _ h (by omega)
   refine ⟨by omega, fun y hy => ?_⟩
   rcases List.mem_cons.1 hy with rfl | hy
   ·omega
   ·have := h2 y hy; omega
theorem szSS_loop (l : List (List Int)) (hm : l.length ≤ maxLen) (hr : ∀ x ∈ l, x.length ≤ maxLen) : ∀ (suf pre : List (List Int)) (a : Int), l = pre ++ suf → 0 ≤ a → a ≤ 1048576 →
  Ev (fun k => laws_szIntSS.l0 k l a (pre.length : Int)) (szRows a suf) := by
 intro suf
 induction suf with
 | nil =>
  intro pre a hl h0 h1
  subst hl
  exact Ev.step (fun k => laws_szIntSS.l0.eq_2 ..) (ev_neg (not_lt_end _) (ev_const rfl))
 | cons y suf ih =>
  intro pre a hl h0 h1
  subst hl
  refine Ev.step (fun k => laws_szIntSS.l0.eq_2 ..) (ev_pos (lt_mid _ _ _) (ev_pos (by omega) ?_))
  rw [rdl_mid]
  refine ev_bindc (szInts y a ⟨h0, h1⟩ (hr y (by simp))) ?_
  simp only [szRows]
  by_cases c : a - (y.length : Int) < 0
  ·simp only [if_pos c]
   exact ev_pos (by omega) (ev_const rfl)
  ·simp only [if_neg c]
   rw [next_mid _ _ _ hm]
   exact ih (pre ++ [y]) _ (assoc_mid _ _ _) (by omega) (by omega)
theorem szSSA (l : List (List Int)) (a : Int) (ha : 0 ≤ a ∧ a ≤ 1048576) (hm : l.length ≤ maxLen) (hr : ∀ x ∈ l, x.length ≤ maxLen) : Ev (fun k => laws_szIntSS.f k l a) (if a - (l.length : Int) < 0 then -1 else szRows (a - (l.length : Int)) l) := by
 unfold laws_szIntSS.f
 rw [wrap_id (x := a - (l.length : Int)) (by simp only [maxLen] at hm; omega) (by omega)]
 by_cases c : a - (l.length : Int) < 0
 ·rw [if_pos c]; exact ev_pos c (ev_const rfl)
 ·rw [if_neg c]; exact ev_neg c (szSS_loop l hm hr l [] _ rfl (by omega) (by omega))
/-- The size: either it is too great, or all parts are small. -/
theorem szAuA (L : Int) (N : List (List Int)) (F : List Int) (a : Int) (ha : 0 ≤ a ∧ a ≤ 1048576) (hN : N.length ≤ maxLen) (hr : ∀ x ∈ N, x.length ≤ maxLen) (hF : F.length ≤ maxLen) :
  ∃ s, Ev (fun k => laws_szAutomaton.f k L N F a) s ∧ (0 ≤ s → s ≤ 1048576 ∧ N.length ≤ 1048576 ∧ (∀ x ∈ N, x.length ≤ 1048576) ∧ F.length ≤ 1048576) := by
 unfold laws_szAutomaton.f
 by_cases c : a - (N.length : Int) < 0
 ·refine ⟨-1, ev_bind (szSSA N a ha hN hr) ?_, by omega⟩
  rw [if_pos c]
  exact ev_pos (by omega) (ev_const rfl)
 ·by_cases c2 : szRows (a - (N.length : Int)) N < 0
  ·refine ⟨-1, ev_bind (szSSA N a ha hN hr) ?_, by omega⟩
   rw [if_neg c]
   exact ev_pos c2 (ev_const rfl)
  ·obtain ⟨h1, h2⟩ := szRows_le N (a - (N.length : Int)) (by omega) (by omega)
   by_cases c3 : szRows (a - (N.length : Int)) N - (F.length : Int) < 0
   ·refine ⟨-1, ev_bind (szSSA N a ha hN hr) ?_, by omega⟩
    rw [if_neg c]
    refine ev_neg c2 (ev_bindc (szInts F _ (by omega) hF) ?_)
    rw [if_pos c3]
    exact ev_pos (by omega) (ev_const rfl)
   ·refine ⟨szRows (a - (N.length : Int)) N - (F.length : Int), ev_bind (szSSA N a ha hN hr) ?_, fun _ => ⟨?_, by omega, fun x hx => by have := h2 x hx; omega, by omega⟩⟩
    ·rw [if_neg c]
     refine ev_neg c2 (ev_bindc (szInts F _ (by omega) hF) ?_)
     rw [if_neg c3]
     exact ev_neg c3 (ev_const rfl)
    ·omega
theorem szAu (L : Int) (N : List (List Int)) (F : List Int) (hN : N.length ≤ maxLen) (hr : ∀ x ∈ N, x.length ≤ maxLen) (hF : F.length ≤ maxLen) :
  ∃ s, Ev (fun k => laws_szAutomaton.f k L N F 1048576) s ∧ (0 ≤ s → s ≤ 1048576 ∧ N.length ≤ 1048576 ∧ (∀ x ∈ N, x.length ≤ 1048576) ∧ F.length ≤ 1048576) := szAuA L N F 1048576 ⟨by omega, by omega⟩ hN hr hF
theorem ev_all {l : List (List Int)} (h : ∀ x ∈ l, Ev (fun k => laws_toIntS.f k x) x) : ∃ K, ∀ k, K ≤ k → ∀ x ∈ l, laws_toIntS.f k x = some x := by
 induction l with
 | nil => exact ⟨0, fun _ _ x hx => by simp at hx⟩
 | cons y l ih =>
  obtain ⟨K, hK⟩ := ih (fun x hx => h x (List.mem_cons_of_mem _ hx))
  obtain ⟨K2, hK2⟩ := h y List.mem_cons_self
  refine ⟨K + K2, fun k hk x hx => ?_⟩
  rcases List.mem_cons.1 hx with rfl | hx
  ·exact hK2 k (by omega)
  ·exact hK k (by omega) x hx
theorem toSS (l : List (List Int)) (h : l.length ≤ 1048576) (hr : ∀ x ∈ l, x.length ≤ 1048576) : Ev (fun k => laws_toIntSS.f k l) l := by
 obtain ⟨K, hK⟩ := ev_all (fun x hx => toInts x (hr x hx))
 refine ⟨K, fun k hk => ?_⟩
 show laws_toIntSS.f k l = some l
 unfold laws_toIntSS.f
 rw [if_pos ⟨by omega, hK k hk⟩]
theorem toAu (L : Int) (N : List (List Int)) (F : List Int) (h : N.length ≤ 1048576) (hr : ∀ x ∈ N, x.length ≤ 1048576) (hF : F.length ≤ 1048576) : Ev (fun k => laws_toAutomaton.f k L N F) (L, N, F) := by
 unfold laws_toAutomaton.f
 exact ev_bind (toSS N h hr) (ev_bind (toInts F hF) (ev_const rfl))
theorem eqSS_loop (l : List (List Int)) (hr : ∀ x ∈ l, x.length ≤ maxLen) : ∀ (suf pre : List (List Int)), l = pre ++ suf → l.length ≤ maxLen → Ev (fun k => laws_eqIntSS.l0 k l l (pre.length : Int)) true := by
 intro suf
 induction suf with
 | nil =>
  intro pre hl hm
  subst hl
  exact Ev.step (fun k => laws_eqIntSS.l0.eq_2 ..) (ev_neg (not_lt_end _) (ev_const rfl))
 | cons y suf ih =>
  intro pre hl hm
  subst hl
  refine Ev.step (fun k => laws_eqIntSS.l0.eq_2 ..) (ev_pos (lt_mid _ _ _) (ev_pos (by omega) (ev_pos (lt_mid _ _ _) ?_)))
  rw [rdl_mid]
  refine ev_bind (eqInts y (hr y (by simp))) (ev_pos rfl ?_)
  rw [next_mid _ _ _ hm]
  exact ih (pre ++ [y]) (assoc_mid _ _ _) hm
theorem eqSS (l : List (List Int)) (hm : l.length ≤ maxLen) (hr : ∀ x ∈ l, x.length ≤ maxLen) : Ev (fun k => laws_eqIntSS.f k l l) true := by
 unfold laws_eqIntSS.f
 exact ev_pos rfl (eqSS_loop l hr l [] rfl hm)
theorem eqAu (L : Int) (N : List (List Int)) (F : List Int) (hN : N.length ≤ maxLen) (hr : ∀ x ∈ N, x.length ≤ maxLen) (hF : F.length ≤ maxLen) : Ev (fun k => laws_eqAutomaton.f k L N F L N F) true := by
 unfold laws_eqAutomaton.f
 exact ev_pos rfl (ev_bind (eqSS N hN hr) (ev_pos rfl (ev_bind (eqInts F hF) (ev_const rfl))))
/-- Strictly increasing behind p, and within bounds. -/
def risB (lo hi : Int) : Option Int → List Int → Bool
 | _, [] => true
 | p, y :: l => decide (lo ≤ y ∧ y ≤ hi) && (match p with | none => true | some q => decide (q < y)) && risB lo hi (some y) l
theorem risB_range {lo hi : Int} : ∀ {l : List Int} {p : Option Int}, risB lo hi p l = true → ∀ y ∈ l, lo ≤ y ∧ y ≤ hi := by
 intro l
 induction l with
 | nil => intro p _ y hy; simp at hy
 | cons x l ih =>
  intro p h y hy
  simp only [risB, Bool.and_eq_true, decide_eq_true_eq] at h
  rcases List.mem_cons.1 hy with rfl | hy
  ·exact h.1.1
  ·exact ih h.2 y hy
theorem risB_above {lo hi : Int} : ∀ {l : List Int} {q : Int}, risB lo hi (some q) l = true → ∀ y ∈ l, q < y := by
 intro l
 induction l with
 | nil => intro p _ y hy; simp at hy
 | cons x l ih =>
  intro q h y hy
  simp only [risB, Bool.and_eq_true, decide_eq_true_eq] at h
  rcases List.mem_cons.1 hy with rfl | hy
  ·exact h.1.2
  ·have := ih h.2 y hy; omega
theorem risB_pairwise {lo hi : Int} : ∀ {l : List Int} {p : Option Int}, risB lo hi p l = true → l.Pairwise (· < ·) := by
 intro l
 induction l with
 | nil => intro p _; exact List.Pairwise.nil
 | cons x l ih =>
  intro p h
  simp only [risB, Bool.and_eq_true, decide_eq_true_eq] at h
  exact List.Pairwise.cons (fun y hy => risB_above h.2 y hy) (ih h.2)
def RowOk (L n : Int) (r : List Int) : Prop := (r.length : Int) = L ∧ ∀ x ∈ r, 0 ≤ x ∧ x ≤ n - 1
instance (L n : Int) (r : List Int) : Decidable (RowOk L n r) := by unfold RowOk; infer_instance
def AuOk (L : Int) (N : List (List Int)) (F : List Int) : Prop := (1 ≤ L ∧ L ≤ 3) ∧ (1 ≤ (N.length : Int) ∧ (N.length : Int) ≤ 12) ∧ (∀ r ∈ N, RowOk L N.length r) ∧ risB 0 ((N.length : Int) - 1) none F = true
instance (L : Int) (N : List (List Int)) (F : List Int) : Decidable (AuOk L N F) := by unfold AuOk; infer_instance
theorem last_at (p : List Int) (q : Int) (suf : List Int) : rd (p ++ [q] ++ suf) (((p ++ [q]).length : Int) - 1) = q := by
 have : ((((p ++ [q]).length : Nat) : Int) - 1).toNat = p.length := by simp
 simp [rd]
theorem l1Rising_loop (lo hi : Int) (l : List Int) (hm : l.length ≤ maxLen) : ∀ (suf pre : List Int), l = pre ++ suf →
  Ev (fun k => spec_l1Rising.l0 k l lo hi l (l.length : Int) (pre.length : Int)) (risB lo hi pre.getLast? suf) := by
 intro suf
 induction suf with
 | nil =>
  intro pre hl
  subst hl
  exact Ev.step (fun k => spec_l1Rising.l0.eq_2 ..) (ev_neg (not_lt_end _) (ev_const (by simp [risB])))
 | cons y suf ih =>
  intro pre hl
  subst hl
  have hl2 := hm
  simp only [List.length_append, List.length_cons, maxLen] at hl2
  refine Ev.step (fun k => spec_l1Rising.l0.eq_2 ..) (ev_pos (lt_mid _ _ _) (ev_pos (by omega) (ev_pos (lt_mid _ _ _) ?_)))
  simp only [in_f, rd_mid, Option.bind_some, decide_eq_true_eq, risB]
  have go := ih (pre ++ [y]) (assoc_mid _ _ _)
  rw [List.getLast?_concat, ← next_mid _ _ _ hm] at go
  by_cases h : lo ≤ y ∧ y ≤ hi
  ·refine ev_pos h ?_
   rw [decide_eq_true h, Bool.true_and]
   rcases List.eq_nil_or_concat pre with rfl | ⟨p, q, rfl⟩
   ·refine ev_neg (by simp) ?_
    simpa using go
   ·rw [List.concat_eq_append] at *
    refine ev_pos (by simp only [List.length_append, List.length_singleton]; omega) ?_
    rw [wrap_id (x := ((p ++ [q]).length : Int) - 1) (by omega) (by omega)]
    refine ev_pos (by simp) (ev_pos (by simp; omega) ?_)
    rw [last_at p q (y :: suf), List.getLast?_concat]
    simp only [ge_iff_le]
    by_cases hq : y ≤ q
    ·refine ev_pos hq (ev_const ?_)
     rw [decide_eq_false (by omega), Bool.false_and]
    ·refine ev_neg hq ?_
     rw [decide_eq_true (by omega), Bool.true_and]
     exact go
  ·refine ev_neg h (ev_const ?_)
   rw [decide_eq_false h, Bool.false_and, Bool.false_and]
theorem l1Rising (l : List Int) (lo hi : Int) (hm : l.length ≤ maxLen) : Ev (fun k => spec_l1Rising.f k l lo hi) (risB lo hi none l) := by
 unfold spec_l1Rising.f
 exact l1Rising_loop lo hi l hm l [] rfl
theorem auGood_loop (L : Int) (N : List (List Int)) (F : List Int) (hN : N.length ≤ maxLen) (hr : ∀ x ∈ N, x.length ≤ maxLen) (hF : F.length ≤ maxLen) : ∀ (suf pre : List (List Int)), N = pre ++ suf →
  Ev (fun k => spec_auGood.l0 k N (N.length : Int) (pre.length : Int) L N F) (decide ((1 ≤ L ∧ L ≤ 3) ∧ (1 ≤ (N.length : Int) ∧ (N.length : Int) ≤ 12) ∧ (∀ r ∈ suf, RowOk L N.length r) ∧ risB 0 ((N.length : Int) - 1) none F = true)) := by
 have hl2 := hN
 simp only [maxLen] at hl2
 have hw : wrap64 ((N.length : Int) - 1) = (N.length : Int) - 1 := wrap_id (by omega) (by omega)
 intro suf
 induction suf with
 | nil =>
  intro pre hl
  refine Ev.step (fun k => spec_auGood.l0.eq_2 ..) (ev_neg (by rw [hl]; exact not_lt_end _) ?_)
  simp only [in_f, Option.bind_some, decide_eq_true_eq, hw]
  by_cases h1 : 1 ≤ L ∧ L ≤ 3
  ·refine ev_pos h1 ?_
   by_cases h2 : 1 ≤ (N.length : Int) ∧ (N.length : Int) ≤ 12
   ·refine ev_pos h2 (ev_bind (l1Rising F 0 _ hF) (ev_const ?_))
    rw [Option.some.injEq, Bool.eq_iff_iff, decide_eq_true_eq]
    exact ⟨fun h => ⟨h1, h2, fun r hr => by simp at hr, h⟩, fun h => h.2.2.2⟩
   ·exact ev_neg h2 (ev_const (by rw [decide_eq_false (fun h => h2 h.2.1)]))
  ·exact ev_neg h1 (ev_const (by rw [decide_eq_false (fun h => h1 h.1)]))
 | cons y suf ih =>
  intro pre hl
  refine Ev.step (fun k => spec_auGood.l0.eq_2 ..) (ev_pos (by rw [hl]; exact lt_mid _ _ _) (ev_pos (by omega) (ev_pos (by rw [hl]; exact lt_mid _ _ _) ?_)))
  have hrd : rd_L1 N (pre.length : Int) = y := by rw [hl]; exact rdl_mid _ _ _
  have hnx : wrap64 ((pre.length : Int) + 1) = ((pre ++ [y]).length : Int) := next_mid pre y suf (by rw [← hl]; exact hN)
  simp only [hrd, hnx, hw]
  by_cases h1 : (y.length : Int) = L
  ·refine ev_pos h1 (ev_bind (l1All y 0 _ (hr y (by rw [hl]; simp))) ?_)
   simp only [decide_eq_true_eq]
   by_cases h2 : ∀ x ∈ y, 0 ≤ x ∧ x ≤ (N.length : Int) - 1
   ·refine ev_pos h2 ?_
    have := ih (pre ++ [y]) (by rw [hl]; exact assoc_mid _ _ _)
    rw [decide_eq_decide.2 (show _ ↔ ((1 ≤ L ∧ L ≤ 3) ∧ (1 ≤ (N.length : Int) ∧ (N.length : Int) ≤ 12) ∧ (∀ r ∈ suf, RowOk L N.length r) ∧ risB 0 ((N.length : Int) - 1) none F = true) from by
     simp only [List.mem_cons, forall_eq_or_imp]
     exact ⟨fun h => ⟨h.1, h.2.1, h.2.2.1.2, h.2.2.2⟩, fun h => ⟨h.1, h.2.1, ⟨⟨h1, h2⟩, h.2.2.1⟩, h.2.2.2⟩⟩)]
    exact this
   ·exact ev_neg h2 (ev_const (by rw [decide_eq_false (fun h => h2 (h.2.2.1 y List.mem_cons_self).2)]))
  ·exact ev_neg h1 (ev_const (by rw [decide_eq_false (fun h => h1 (h.2.2.1 y List.mem_cons_self).1)]))
theorem auGood (L : Int) (N : List (List Int)) (F : List Int) (hN : N.length ≤ maxLen) (hr : ∀ x ∈ N, x.length ≤ maxLen) (hF : F.length ≤ maxLen) : Ev (fun k => spec_auGood.f k L N F) (decide (AuOk L N F)) := by
 unfold spec_auGood.f
 exact auGood_loop L N F hN hr hF N [] rfl
theorem isAu_fin (L : Int) (N : List (List Int)) (F : List Int) (hN : N.length ≤ maxLen) (hF : F.length ≤ maxLen) : ∀ (suf pre : List Int), F = pre ++ suf →
  Ev (fun k => impl_IsAutomaton.l2 k F (F.length : Int) (pre.length : Int) L N F) (risB 0 ((N.length : Int) - 1) pre.getLast? suf) := by
 intro suf
 induction suf with
 | nil =>
  intro pre hl
  subst hl
  exact Ev.step (fun k => impl_IsAutomaton.l2.eq_2 ..) (ev_neg (not_lt_end _) (ev_const (by simp [risB])))
 | cons y suf ih =>
  intro pre hl
  subst hl
  have hl2 := hF
  simp only [List.length_append, List.length_cons, maxLen] at hl2
  refine Ev.step (fun k => impl_IsAutomaton.l2.eq_2 ..) (ev_pos (lt_mid _ _ _) (ev_pos (by omega) (ev_pos (lt_mid _ _ _) ?_)))
  simp only [rd_mid, risB]
  have go := ih (pre ++ [y]) (assoc_mid _ _ _)
  rw [List.getLast?_concat, ← next_mid _ _ _ hF] at go
  by_cases h : 0 ≤ y ∧ y ≤ (N.length : Int) - 1
  ·refine ev_neg (by omega) (ev_neg (by omega) ?_)
   rw [decide_eq_true h, Bool.true_and]
   rcases List.eq_nil_or_concat pre with rfl | ⟨p, q, rfl⟩
   ·refine ev_neg (by simp) ?_
    simpa using go
   ·rw [List.concat_eq_append] at *
    refine ev_pos (by simp only [List.length_append, List.length_singleton]; omega) ?_
    rw [wrap_id (x := ((p ++ [q]).length : Int) - 1) (by omega) (by omega)]
    refine ev_pos (by simp) (ev_pos (by simp; omega) ?_)
    rw [last_at p q (y :: suf), List.getLast?_concat]
    by_cases hq : y ≤ q
    ·refine ev_pos hq (ev_const ?_)
     simp only
     rw [decide_eq_false (by omega), Bool.false_and]
    ·refine ev_neg hq ?_
     simp only
     rw [decide_eq_true (by omega), Bool.true_and]
     exact go
  ·rw [decide_eq_false h, Bool.false_and, Bool.false_and]
   by_cases h0 : y < 0
   ·exact ev_pos h0 (ev_const rfl)
   ·exact ev_neg h0 (ev_pos (by omega) (ev_const rfl))
theorem isAu_row (L : Int) (N : List (List Int)) (F : List Int) (i : Int) (y : List Int) (hy : y.length ≤ maxLen) (R : Bool) (hR : Ev (fun k => impl_IsAutomaton.l0 k N (N.length : Int) (wrap64 (i + 1)) L N F) R) : ∀ (suf pre : List Int), y = pre ++ suf →
  Ev (fun k => impl_IsAutomaton.l1 k N (N.length : Int) i y (y.length : Int) (pre.length : Int) L N F) (decide (∀ x ∈ suf, 0 ≤ x ∧ x ≤ (N.length : Int) - 1) && R) := by
 intro suf
 induction suf with
 | nil =>
  intro pre hl
  subst hl
  refine Ev.step (fun k => impl_IsAutomaton.l1.eq_2 ..) (ev_neg (not_lt_end _) ?_)
  simpa using hR
 | cons x suf ih =>
  intro pre hl
  subst hl
  refine Ev.step (fun k => impl_IsAutomaton.l1.eq_2 ..) (ev_pos (lt_mid _ _ _) (ev_pos (by omega) (ev_pos (lt_mid _ _ _) ?_)))
  simp only [rd_mid]
  by_cases h : 0 ≤ x ∧ x ≤ (N.length : Int) - 1
  ·refine ev_neg (by omega) (ev_neg (by omega) ?_)
   rw [next_mid _ _ _ hy]
   have := ih (pre ++ [x]) (assoc_mid _ _ _)
   rw [show decide (∀ z ∈ x :: suf, 0 ≤ z ∧ z ≤ (N.length : Int) - 1) = decide (∀ z ∈ suf, 0 ≤ z ∧ z ≤ (N.length : Int) - 1) by rw [decide_eq_decide]; simp [h]]
   exact this
  ·rw [show decide (∀ z ∈ x :: suf, 0 ≤ z ∧ z ≤ (N.length : Int) - 1) = false from decide_eq_false (fun hh => h (hh x List.mem_cons_self)), Bool.false_and]
   by_cases h0 : x < 0
   ·exact ev_pos h0 (ev_const rfl)
   ·exact ev_neg h0 (ev_pos (by omega) (ev_const rfl))
theorem isAu_loop (L : Int) (N : List (List Int)) (F : List Int) (hN : N.length ≤ maxLen) (hr : ∀ x ∈ N, x.length ≤ maxLen) (hF : F.length ≤ maxLen) : ∀ (suf pre : List (List Int)), N = pre ++ suf →
  Ev (fun k => impl_IsAutomaton.l0 k N (N.length : Int) (pre.length : Int) L N F) (decide (∀ r ∈ suf, RowOk L N.length r) && risB 0 ((N.length : Int) - 1) none F) := by
 intro suf
 induction suf with
 | nil =>
  intro pre hl
  refine Ev.step (fun k => impl_IsAutomaton.l0.eq_2 ..) (ev_neg (by rw [hl]; exact not_lt_end _) ?_)
  have := isAu_fin L N F hN hF F [] rfl
  simpa using this
 | cons y suf ih =>
  intro pre hl
  refine Ev.step (fun k => impl_IsAutomaton.l0.eq_2 ..) (ev_pos (by rw [hl]; exact lt_mid _ _ _) (ev_pos (by omega) (ev_pos (by rw [hl]; exact lt_mid _ _ _) ?_)))
  have hrd : rd_L1 N (pre.length : Int) = y := by rw [hl]; exact rdl_mid _ _ _
  have hnx : wrap64 ((pre.length : Int) + 1) = ((pre ++ [y]).length : Int) := next_mid pre y suf (by rw [← hl]; exact hN)
  simp only [hrd]
  by_cases h1 : (y.length : Int) = L
  ·refine ev_pos h1 ?_
   have h2 := ih (pre ++ [y]) (by rw [hl]; exact assoc_mid _ _ _)
   rw [← hnx] at h2
   have := isAu_row L N F _ y (hr y (by rw [hl]; simp)) _ h2 y [] rfl
   rw [show (decide (∀ r ∈ y :: suf, RowOk L N.length r) && risB 0 ((N.length : Int) - 1) none F) = (decide (∀ x ∈ y, 0 ≤ x ∧ x ≤ (N.length : Int) - 1) && (decide (∀ r ∈ suf, RowOk L N.length r) && risB 0 ((N.length : Int) - 1) none F)) from by
    rw [← Bool.and_assoc]
    congr 1
    rw [Bool.eq_iff_iff, Bool.and_eq_true, decide_eq_true_eq, decide_eq_true_eq, decide_eq_true_eq]
    simp only [List.mem_cons, forall_eq_or_imp]
    exact ⟨fun h => ⟨h.1.2, h.2⟩, fun h => ⟨⟨h1, h.1⟩, h.2⟩⟩]
   exact this
  ·refine ev_neg h1 (ev_const ?_)
   rw [show decide (∀ r ∈ y :: suf, RowOk L N.length r) = false from decide_eq_false (fun h => h1 (h y List.mem_cons_self).1), Bool.false_and]
theorem isAu (L : Int) (N : List (List Int)) (F : List Int) (hN : N.length ≤ maxLen) (hr : ∀ x ∈ N, x.length ≤ maxLen) (hF : F.length ≤ maxLen) : Ev (fun k => impl_IsAutomaton.f k L N F) (decide (AuOk L N F)) := by
 unfold impl_IsAutomaton.f
 have no : ∀ b, b = true → ¬ AuOk L N F → Ev (fun k => impl_IsAutomaton.j0 k b L N F) (decide (AuOk L N F)) := by
  intro b hb h
  rw [decide_eq_false h]
  exact Ev.step (fun k => impl_IsAutomaton.j0.eq_2 ..) (ev_pos hb (ev_const rfl))
 by_cases h1 : L < 1
 ·exact ev_pos h1 (no _ rfl (fun h => by have := h.1; omega))
 refine ev_neg h1 ?_
 by_cases h2 : L > 3
 ·exact ev_pos h2 (no _ rfl (fun h => by have := h.1; omega))
 refine ev_neg h2 ?_
 by_cases h3 : (N.length : Int) < 1
 ·exact ev_pos h3 (no _ rfl (fun h => by have := h.2.1; omega))
 refine ev_neg h3 ?_
 by_cases h4 : (N.length : Int) > 12
 ·exact no _ (decide_eq_true h4) (fun h => by have := h.2.1; omega)
 ·rw [decide_eq_false h4]
  refine Ev.step (fun k => impl_IsAutomaton.j0.eq_2 ..) (ev_neg (by simp) ?_)
  have := isAu_loop L N F hN hr hF N [] rfl
  rw [show decide (AuOk L N F) = (decide (∀ r ∈ N, RowOk L N.length r) && risB 0 ((N.length : Int) - 1) none F) from by
   rw [Bool.eq_iff_iff, Bool.and_eq_true, decide_eq_true_eq, decide_eq_true_eq]
   exact ⟨fun h => ⟨h.2.2.1, h.2.2.2⟩, fun h => ⟨by omega, by omega, h.1, h.2⟩⟩]
  exact this
def WordOk (L : Int) (w : List Int) : Prop := (w.length : Int) ≤ 40 ∧ ∀ x ∈ w, 0 ≤ x ∧ x ≤ L - 1
instance (L : Int) (w : List Int) : Decidable (WordOk L w) := by unfold WordOk; infer_instance
/-- The state to which a word leads from a state. -/
def runA (N : List (List Int)) : Int → List Int → Int
 | s, [] => s
 | s, x :: w => runA N (rd (rd_L1 N s) x) w
theorem AuOk.step {L : Int} {N : List (List Int)} {F : List Int} (h : AuOk L N F) {s x : Int} (hs : 0 ≤ s ∧ s < N.length) (hx : 0 ≤ x ∧ x ≤ L - 1) :
  (rd_L1 N s).length = L ∧ 0 ≤ rd (rd_L1 N s) x ∧ rd (rd_L1 N s) x < N.length := by
 have hr := h.2.2.1 _ (rdl_mem hs.1 hs.2)
 have := hr.2 _ (rd_mem hx.1 (by rw [hr.1]; omega))
 exact ⟨hr.1, this.1, by omega⟩
theorem AuOk.run {L : Int} {N : List (List Int)} {F : List Int} (h : AuOk L N F) : ∀ (w : List Int) (s : Int), 0 ≤ s ∧ s < N.length → (∀ x ∈ w, 0 ≤ x ∧ x ≤ L - 1) → 0 ≤ runA N s w ∧ runA N s w < N.length := by
 intro w
 induction w with
 | nil => intro s hs _; exact hs
 | cons x w ih =>
  intro s hs hw
  have := h.step hs (hw x List.mem_cons_self)
  exact ih _ this.2 (fun y hy => hw y (List.mem_cons_of_mem _ hy))
end Go.Proofs.YtkfedkckakegjaaDoor.A
