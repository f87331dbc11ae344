/- The greatest values of a run, in plain lists. -/
import Derived.Test.YtbcphkblieeemaaYFnExactGreatestValuesALines0
namespace Go.Proofs.Ytbcphkblieeemaa.A
open Go.RowKit Go.Proofs.YtbcphkblieeemaaW.PrintWords Go.Proofs.YtbcphkblieeemaaW.PrintLast Go.Proofs.YtbcphkblieeemaaW.PrintMore Go.Proofs.Ytbcphkblieeemaa.P Go.Proofs.Ytbcphkblieeemaa.T
set_option linter.unusedVariables false
set_option linter.unusedSimpArgs false
def mostL : List Int → List Int → List Int
  | a :: u, b :: v => mx a b :: mostL u v
  | u, [] => u
  | [], _ :: _ => []
theorem mostL_nil (u : List Int) : mostL u [] = u := by cases u <;> rfl
theorem mostL_len : ∀ u v, (mostL u v).length = u.length := by
  intro u
  induction u with
  | nil => intro v; cases v <;> rfl
  | cons a u ih => intro v; cases v with
    | nil => rfl
    | cons b v => simp [mostL, ih]
theorem mx_idem (a b : Int) : mx (mx a b) b = mx a b := by
  unfold mx
  by_cases h : a < b
  · rw [if_pos h, if_neg (by omega)]
  · rw [if_neg h, if_neg h]
theorem mostL_idem : ∀ u v, mostL (mostL u v) v = mostL u v := by
  intro u
  induction u with
  | nil => intro v; cases v <;> rfl
  | cons a u ih => intro v; cases v with
    | nil => rfl
    | cons b v => simp [mostL, ih, mx_idem]
def mostS (u : List Int) (x : S31) : List Int := mostL u x.f1
theorem mostS_idem (u : List Int) (s : S31) : mostS (mostS u s) s = mostS u s := mostL_idem _ _
theorem mostS_len (S : List S31) : ∀ u, (S.foldl mostS u).length = u.length := by
  induction S with
  | nil => intro u; rfl
  | cons x S ih => intro u; rw [List.foldl_cons, ih]; exact mostL_len _ _
/-- Within a row of values: the first j are done. -/
def mostAt (v : List Int) (j : Nat) (p : List Int) : List Int := p.take j ++ mostL (p.drop j) (v.drop j)
theorem mostAt_zero (v p : List Int) : mostAt v 0 p = mostL p v := by simp [mostAt]
theorem mostAt_end (v p : List Int) (h : p.length = v.length) : mostAt v v.length p = p := by
  unfold mostAt
  rw [List.drop_eq_nil_iff.2 (Nat.le_refl v.length), mostL_nil, List.take_append_drop]
theorem mostAt_step {v p : List Int} {j : Nat} (hp : j < p.length) (hv : j < v.length) : mostAt v (j + 1) (p.set j (mx (rd p (j : Int)) (rd v (j : Int)))) = mostAt v j p := by
  unfold mostAt
  have e1 : rd p (j : Int) = p[j] := by simp [rd, hp]
  have e2 : rd v (j : Int) = v[j] := by simp [rd, hv]
  rw [e1, e2, List.drop_eq_getElem_cons hp, List.drop_eq_getElem_cons hv, mostL]
  rw [List.take_set, List.take_add_one, List.drop_set_of_lt (by omega)]
  rw [List.getElem?_eq_getElem hp, Option.toList_some]
  rw [List.set_append_right _ _ (by simp; omega)]
  simp [Nat.min_eq_left (Nat.le_of_lt hp)]
def resGreat (l : List S55) (line : Int) (vs : List Int) (n : Int) : List Int × Bool :=
  if StOk l line vs ∧ 0 ≤ n ∧ n ≤ 2000 then (if (makeL l n.toNat 0 line vs (-1)).2.2 = true then ([], false) else ((makeL l n.toNat 0 line vs (-1)).1.foldl mostS vs, true)) else ([], false)
theorem resGreat_len (l : List S55) (line : Int) (vs : List Int) (n : Int) (h1 : l.length ≤ 1048576) (h2 : vs.length ≤ 1048576) : (resGreat l line vs n).1.length ≤ 1048577 := by
  unfold resGreat
  split
  · split
    · simp
    · simp only; rw [mostS_len]; omega
  · simp
end Go.Proofs.Ytbcphkblieeemaa.A
