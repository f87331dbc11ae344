/- What the printed helpers on numbers and on lists of numbers come to. -/
import Derived.Test.YtkfedkckakegjaaDoorPx4
import Derived.Test.YtkfedkckakegjaaDoorPx1
import Derived.Test.YtkfedkckakegjaaDoorPx12
import Derived.Test.YtkfedkckakegjaaDoorPx42
import Derived.Test.YtkfedkckakegjaaDoorPx5
import Derived.Test.YtkfedkckakegjaaDoorPx8
import Derived.Test.YtkfedkckakegjaaDoorPx16
import Derived.Test.YtkfedkckakegjaaDoorPx17
import Derived.Test.YtkfedkckakegjaaDoorT
namespace Go.Proofs.YtkfedkckakegjaaDoor.A
open Go.RowKit YtkfedkckakegjaaDoorW.PrintWords YtkfedkckakegjaaDoorW.PrintLast YtkfedkckakegjaaDoorW.PrintMore P T
set_option linter.unusedVariables false
set_option linter.unusedSimpArgs false

theorem rd_mid (pre : List Int) (y : Int) (suf : List Int) : rd (pre ++ y :: suf) (pre.length : Int) = y := by simp [rd]
/-- m, m + 1, .. -/
def iota : Int → Nat → List Int
 | _, 0 => []
 | m, n + 1 => m :: iota (m + 1) n
theorem iota_length (n : Nat) : ∀ m, (iota m n).length = n := by
 induction n with
 | zero => intro m; rfl
 | succ n ih => intro m; simp [iota, ih]
theorem in_f (a lo hi : Int) : spec_l1In.f a lo hi = some (decide (lo ≤ a ∧ a ≤ hi)) := by
 unfold spec_l1In.f
 by_cases h : a ≥ lo
 ·rw [if_pos h]; simp [show lo ≤ a from h]
 ·rw [if_neg h]; simp; omega
theorem szInts (l : List Int) (a : Int) (ha : 0 ≤ a ∧ a ≤ 1048576) (h : l.length ≤ maxLen) : laws_szIntS.f l a = some (if a - (l.length : Int) < 0 then -1 else a - (l.length : Int)) := by
 unfold laws_szIntS.f
 simp only [maxLen] at h
 rw [wrap_id (by omega) (by omega)]
 by_cases h1 : a - (l.length : Int) < 0
 ·rw [if_pos h1, if_pos h1]
 ·rw [if_neg h1, if_neg h1]
theorem toInts_loop (l : List Int) : ∀ (suf pre qsuf : List Int), l = pre ++ suf → l.length ≤ maxLen → qsuf.length = suf.length →
  Ev (fun k => laws_toIntS.l0 k l (pre ++ qsuf) (pre.length : Int)) l := by
 intro suf
 induction suf with
 | nil =>
  intro pre qsuf hl hm h2
  subst hl
  obtain rfl : qsuf = [] := List.length_eq_zero_iff.1 h2
  refine Ev.step (fun k => laws_toIntS.l0.eq_2 ..) ?_
  exact ev_neg (not_lt_end _) (ev_const rfl)
 | cons y suf ih =>
  intro pre qsuf hl hm h2
  subst hl
  obtain ⟨z, qsuf, rfl⟩ : ∃ z t, qsuf = z :: t := by cases qsuf with | nil => simp at h2 | cons z t => exact ⟨z, t, rfl⟩
  refine Ev.step (fun k => laws_toIntS.l0.eq_2 ..) ?_
  refine ev_pos (lt_mid _ _ _) (ev_pos (by omega) (ev_pos (lt_mid _ _ _) ?_))
  rw [next_mid _ _ _ hm, set_mid, rd_mid]
  exact ih (pre ++ [y]) qsuf (assoc_mid _ _ _) hm (by simpa using h2)
theorem toInts (l : List Int) (h : l.length ≤ 1048576) : Ev (fun k => laws_toIntS.f k l) l := by
 have := toInts_loop l l [] (List.replicate l.length 0) rfl (by simp only [maxLen]; omega) (by simp)
 unfold laws_toIntS.f
 refine ev_pos (by omega) (ev_pos (by simp; omega) ?_)
 simpa using this
theorem eqInts_loop (l : List Int) : ∀ (suf pre : List Int), l = pre ++ suf → l.length ≤ maxLen → Ev (fun k => laws_eqIntS.l0 k l l (pre.length : Int)) true := by
 intro suf
 induction suf with
 | nil =>
  intro pre hl hm
  subst hl
  refine Ev.step (fun k => laws_eqIntS.l0.eq_2 ..) ?_
  exact ev_neg (not_lt_end _) (ev_const rfl)
 | cons y suf ih =>
  intro pre hl hm
  subst hl
  refine Ev.step (fun k => laws_eqIntS.l0.eq_2 ..) ?_
  refine ev_pos (lt_mid _ _ _) (ev_pos (by omega) (ev_pos (lt_mid _ _ _) (ev_pos rfl ?_)))
  rw [next_mid _ _ _ hm]
  exact ih (pre ++ [y]) (assoc_mid _ _ _) hm
theorem eqInts (l : List Int) (h : l.length ≤ maxLen) : Ev (fun k => laws_eqIntS.f k l l) true := by
 unfold laws_eqIntS.f
 exact ev_pos rfl (eqInts_loop l l [] rfl h)
theorem l1All_loop (lo hi : Int) (l : List Int) (hm : l.length ≤ maxLen) : ∀ (suf pre : List Int), l = pre ++ suf →
  Ev (fun k => spec_l1All.l0 k lo hi l (l.length : Int) (pre.length : Int)) (decide (∀ x ∈ suf, lo ≤ x ∧ x ≤ hi)) := by
 intro suf
 induction suf with
 | nil =>
  intro pre hl
  subst hl
  refine Ev.step (fun k => spec_l1All.l0.eq_2 ..) ?_
  exact ev_neg (not_lt_end _) (ev_const (by simp))
 | cons y suf ih =>
  intro pre hl
  subst hl
  refine Ev.step (fun k => spec_l1All.l0.eq_2 ..) ?_
  refine ev_pos (lt_mid _ _ _) (ev_pos (by omega) (ev_pos (lt_mid _ _ _) ?_))
  simp only [in_f, rd_mid, Option.bind_some, decide_eq_true_eq]
  by_cases h : lo ≤ y ∧ y ≤ hi
  ·refine ev_pos h ?_
   rw [next_mid _ _ _ hm]
   have := ih (pre ++ [y]) (assoc_mid _ _ _)
   rw [show decide (∀ x ∈ y :: suf, lo ≤ x ∧ x ≤ hi) = decide (∀ x ∈ suf, lo ≤ x ∧ x ≤ hi) by rw [decide_eq_decide]; simp [h]]
   exact this
  ·refine ev_neg h (ev_const ?_)
   rw [show decide (∀ x ∈ y :: suf, lo ≤ x ∧ x ≤ hi) = false from decide_eq_false (fun hh => h (hh y List.mem_cons_self))]
theorem l1All (l : List Int) (lo hi : Int) (hm : l.length ≤ maxLen) : Ev (fun k => spec_l1All.f k l lo hi) (decide (∀ x ∈ l, lo ≤ x ∧ x ≤ hi)) := by
 unfold spec_l1All.f
 exact l1All_loop lo hi l hm l [] rfl
theorem l1Has_loop (l : List Int) (n : Int) (hm : l.length ≤ maxLen) : ∀ (suf pre : List Int), l = pre ++ suf →
  Ev (fun k => spec_l1Has.l0 k n l (l.length : Int) (pre.length : Int)) (decide (n ∈ suf)) := by
 intro suf
 induction suf with
 | nil =>
  intro pre hl
  subst hl
  refine Ev.step (fun k => spec_l1Has.l0.eq_2 ..) ?_
  exact ev_neg (not_lt_end _) (ev_const (by simp))
 | cons y suf ih =>
  intro pre hl
  subst hl
  refine Ev.step (fun k => spec_l1Has.l0.eq_2 ..) ?_
  refine ev_pos (lt_mid _ _ _) (ev_pos (by omega) (ev_pos (lt_mid _ _ _) ?_))
  simp only [rd_mid]
  by_cases h : y = n
  ·refine ev_pos h (ev_const ?_)
   rw [decide_eq_true (by rw [h]; exact List.mem_cons_self)]
  ·refine ev_neg h ?_
   rw [next_mid _ _ _ hm]
   have := ih (pre ++ [y]) (assoc_mid _ _ _)
   rw [show decide (n ∈ y :: suf) = decide (n ∈ suf) by rw [decide_eq_decide, List.mem_cons]; exact ⟨fun hh => hh.resolve_left (fun e => h e.symm), Or.inr⟩]
   exact this
theorem l1Has (l : List Int) (n : Int) (hm : l.length ≤ maxLen) : Ev (fun k => spec_l1Has.f k l n) (decide (n ∈ l)) := by
 unfold spec_l1Has.f
 exact l1Has_loop l n hm l [] rfl
/-- The first place of n in a list, -1 for none. -/
def ixOf (n : Int) : List Int → Int → Int
 | [], _ => -1
 | y :: l, i => if n = y then i else ixOf n l (i + 1)
theorem index_loop (l : List Int) (n : Int) (hm : l.length ≤ maxLen) : ∀ (suf pre : List Int), l = pre ++ suf →
  Ev (fun k => slices_Index_int_int.l0 k l n (l.length : Int) (pre.length : Int)) (ixOf n suf (pre.length : Int)) := by
 intro suf
 induction suf with
 | nil =>
  intro pre hl
  subst hl
  refine Ev.step (fun k => slices_Index_int_int.l0.eq_2 ..) ?_
  exact ev_neg (not_lt_end _) (ev_const (by simp [ixOf]))
 | cons y suf ih =>
  intro pre hl
  subst hl
  refine Ev.step (fun k => slices_Index_int_int.l0.eq_2 ..) ?_
  refine ev_pos (lt_mid _ _ _) (ev_pos (by omega) (ev_pos (lt_mid _ _ _) ?_))
  simp only [rd_mid, ixOf]
  by_cases h : n = y
  ·refine ev_pos h (ev_const ?_)
   rw [if_pos h]
  ·refine ev_neg h ?_
   rw [if_neg h, next_mid _ _ _ hm]
   have := ih (pre ++ [y]) (assoc_mid _ _ _)
   rw [show ixOf n suf ((pre ++ [y]).length : Int) = ixOf n suf ((pre.length : Int) + 1) by simp] at this
   exact this
theorem index (l : List Int) (n : Int) (hm : l.length ≤ maxLen) : Ev (fun k => slices_Index_int_int.f k l n) (ixOf n l 0) := by
 unfold slices_Index_int_int.f
 exact index_loop l n hm l [] rfl
theorem ixOf_none (n : Int) (l : List Int) : ∀ i, n ∉ l → ixOf n l i = -1 := by
 induction l with
 | nil => intro i h; rfl
 | cons y l ih =>
  intro i h
  simp only [List.mem_cons, not_or] at h
  rw [ixOf, if_neg h.1, ih _ h.2]
theorem ixOf_some (n : Int) (l : List Int) : ∀ i : Int, n ∈ l → ∃ j : Nat, ixOf n l i = i + j ∧ l[j]? = some n ∧ n ∉ l.take j := by
 induction l with
 | nil => intro i h; simp at h
 | cons y l ih =>
  intro i h
  by_cases e : n = y
  ·exact ⟨0, by rw [ixOf, if_pos e]; simp, by simp [e], by simp⟩
  ·obtain ⟨j, h1, h2, h3⟩ := ih (i + 1) ((List.mem_cons.1 h).resolve_left e)
   refine ⟨j + 1, by rw [ixOf, if_neg e, h1]; omega, by simpa using h2, by simp [e, h3]⟩
theorem contains (l : List Int) (n : Int) (hm : l.length ≤ maxLen) : Ev (fun k => slices_Contains_int_int.f k l n) (decide (n ∈ l)) := by
 unfold slices_Contains_int_int.f
 refine ev_bind (index l n hm) (ev_const ?_)
 rw [Option.some.injEq, decide_eq_decide]
 by_cases h : n ∈ l
 ·obtain ⟨j, h1, _⟩ := ixOf_some n l 0 h
  exact ⟨fun _ => h, fun _ => by omega⟩
 ·rw [ixOf_none n l 0 h]
  exact ⟨fun h1 => absurd h1 (by decide), fun h1 => absurd h1 h⟩
end Go.Proofs.YtkfedkckakegjaaDoor.A
