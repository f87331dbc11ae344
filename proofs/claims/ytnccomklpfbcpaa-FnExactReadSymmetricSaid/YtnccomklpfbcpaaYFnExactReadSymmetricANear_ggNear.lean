/- The cells beside a cell, as both programs list them. -/
import Derived.Test.YtnccomklpfbcpaaYFnExactReadSymmetricVGg
import Derived.Test.YtnccomklpfbcpaaYFnExactReadSymmetricPx67
namespace Go.Proofs.Ytnccomklpfbcpaa.A
open Go.RowKit Go.Proofs.YtnccomklpfbcpaaW.PrintWords Go.Proofs.YtnccomklpfbcpaaW.PrintLast Go.Proofs.YtnccomklpfbcpaaW.PrintMore Go.Proofs.Ytnccomklpfbcpaa.P Go.Proofs.Ytnccomklpfbcpaa.T
set_option linter.unusedVariables false
set_option linter.unusedSimpArgs false

def nj1 (k : Nat) (i q m : Int) (acc : List Int) (R cn : Int) (l : List S72) := spec_ggNear.j1 k i q m acc R cn l
def nj0 (k : Nat) (i q m : Int) (acc : List Int) (R cn : Int) (l : List S72) := spec_ggNear.j0 k i q m acc R cn l
def optL (b : Bool) (x : Int) : List Int := if b = true then [x] else []
theorem optL_t (x : Int) : optL true x = [x] := rfl
theorem optL_f (x : Int) : optL false x = [] := rfl
theorem nj1_ok (k : Nat) (i q m : Int) (acc : List Int) (R cn : Int) (l : List S72) (ha : acc.length ≤ 10) (hi : 0 ≤ i ∧ i ≤ 1000) (hq : 0 ≤ q ∧ q ≤ 1000) (hm : 0 ≤ m ∧ m ≤ 1000) (hc : 0 ≤ cn ∧ cn ≤ 1000) :
    nj1 (k + 1) i q m acc R cn l = some (acc ++ optL (decide (m + 1 < cn)) (i + 1) ++ optL (decide (q + 1 < R)) (i + cn)) := by
  have w2 : wrap64 (i + 1) = i + 1 := wrap_id (by omega) (by omega)
  have w3 : wrap64 (m + 1) = m + 1 := wrap_id (by omega) (by omega)
  have w4 : wrap64 (q + 1) = q + 1 := wrap_id (by omega) (by omega)
  have w6 : wrap64 (i + cn) = i + cn := wrap_id (by omega) (by omega)
  unfold nj1
  refine (spec_ggNear.j1.eq_2 ..).trans ?_
  rw [w2, w3, w4, w6]
  by_cases h3 : m + 1 < cn
  · rw [if_pos h3, if_pos (by omega), Option.bind_some, decide_eq_true h3, optL_t]
    by_cases h4 : q + 1 < R
    · rw [if_pos h4, if_pos (by rw [List.length_append]; simp; omega), decide_eq_true h4, optL_t]
    · rw [if_neg h4, decide_eq_false h4, optL_f, List.append_nil]
  · rw [if_neg h3, decide_eq_false h3, optL_f, List.append_nil]
    by_cases h4 : q + 1 < R
    · rw [if_pos h4, if_pos (by omega), decide_eq_true h4, optL_t]
    · rw [if_neg h4, decide_eq_false h4, optL_f, List.append_nil]
theorem nj0_ok (k : Nat) (i q m : Int) (acc : List Int) (R cn : Int) (l : List S72) (ha : acc.length ≤ 9) (hi : 0 ≤ i ∧ i ≤ 1000) (hq : 0 ≤ q ∧ q ≤ 1000) (hm : 0 ≤ m ∧ m ≤ 1000) (hc : 0 ≤ cn ∧ cn ≤ 1000) :
    nj0 (k + 2) i q m acc R cn l = some (acc ++ optL (decide (0 < m)) (i - 1) ++ optL (decide (m + 1 < cn)) (i + 1) ++ optL (decide (q + 1 < R)) (i + cn)) := by
  have w1 : wrap64 (i - 1) = i - 1 := wrap_id (by omega) (by omega)
  unfold nj0
  refine (spec_ggNear.j0.eq_2 ..).trans ?_
  rw [w1]
  by_cases h3 : 0 < m
  · rw [if_pos h3, if_pos (by omega), decide_eq_true h3, optL_t]
    exact nj1_ok k i q m (acc ++ [i - 1]) R cn l (by rw [List.length_append]; simp; omega) hi hq hm hc
  · rw [if_neg (show ¬ m > 0 from h3), decide_eq_false h3, optL_f, List.append_nil]
    exact nj1_ok k i q m acc R cn l (by omega) hi hq hm hc
theorem optL_nat (b : Bool) (p : Prop) [Decidable p] (hb : b = decide p) (x : Nat) (y : Int) (h : p → y = (x : Int)) : optL b y = natI (if p then [x] else []) := by
  subst hb
  by_cases hp : p
  · rw [decide_eq_true hp, if_pos hp, h hp]; rfl
  · rw [decide_eq_false hp, if_neg hp]; rfl
theorem pos_cast (q : Nat) : decide ((0 : Int) < (q : Int)) = decide (0 < q) := by rw [decide_eq_decide]; exact Int.natCast_pos
theorem lt_cast (m c : Nat) : decide ((m : Int) + 1 < (c : Int)) = decide (m + 1 < c) := by rw [decide_eq_decide]; omega
theorem sub_cast (i x : Nat) (h : x ≤ i) : (i : Int) - (x : Int) = ((i - x : Nat) : Int) := by omega
theorem natI_app (a b : List Nat) : natI (a ++ b) = natI a ++ natI b := by simp [natI]
theorem spec_ggNear_near (R cn : Nat) (l : List S72) (hR : R ≤ 10) (hc1 : 1 ≤ cn) (hc9 : cn ≤ 9) (i : Nat) (hi : i < R * cn) : spec_ggNear.f 5 (R : Int) (cn : Int) l (i : Int) = some (natI (nearL R cn i)) := by
  obtain ⟨q, hq⟩ : ∃ q, q = i / cn := ⟨_, rfl⟩
  obtain ⟨m, hm⟩ : ∃ m, m = i % cn := ⟨_, rfl⟩
  have hdm := Nat.div_add_mod i cn
  rw [← hq, ← hm] at hdm
  have hml : m < cn := by rw [hm]; exact Nat.mod_lt _ (by omega)
  have h90 : R * cn ≤ 10 * 9 := Nat.mul_le_mul hR hc9
  have hq10 : q ≤ 10 := by
    rw [hq]
    exact Nat.le_of_lt (Nat.lt_of_lt_of_le (Nat.div_lt_of_lt_mul (by rw [Nat.mul_comm]; exact hi)) hR)
  have b1 : 0 ≤ (i : Int) ∧ (i : Int) ≤ 1000 := by omega
  have b2 : 0 ≤ (q : Int) ∧ (q : Int) ≤ 1000 := by omega
  have b3 : 0 ≤ (m : Int) ∧ (m : Int) ≤ 1000 := by omega
  have b4 : 0 ≤ (cn : Int) ∧ (cn : Int) ≤ 1000 := by omega
  have e1 : Int.tdiv (i : Int) (cn : Int) = (q : Int) := by rw [hq]; rfl
  have e2 : Int.tmod (i : Int) (cn : Int) = (m : Int) := by rw [hm]; rfl
  have hz : ¬ ((cn : Int) = 0) := by omega
  have w0 : wrap64 (q : Int) = (q : Int) := wrap_id (by omega) (by omega)
  have w5 : wrap64 ((i : Int) - (cn : Int)) = (i : Int) - (cn : Int) := wrap_id (by omega) (by omega)
  have f1 : 0 < q → (i : Int) - (cn : Int) = ((i - cn : Nat) : Int) := fun h => sub_cast i cn (by
    have h1 : cn * 1 ≤ cn * q := Nat.mul_le_mul_left _ h
    rw [Nat.mul_one] at h1
    exact Nat.le_trans h1 (Nat.le_trans (Nat.le_add_right _ _) (Nat.le_of_eq hdm)))
  have f2 : 0 < m → (i : Int) - 1 = ((i - 1 : Nat) : Int) := fun h => sub_cast i 1 (Nat.le_trans h (Nat.le_trans (Nat.le_add_left _ _) (Nat.le_of_eq hdm)))
  clear hdm
  have key : optL (decide ((0 : Int) < q)) ((i : Int) - cn) ++ optL (decide ((0 : Int) < m)) ((i : Int) - 1) ++ optL (decide ((m : Int) + 1 < cn)) ((i : Int) + 1) ++ optL (decide ((q : Int) + 1 < R)) ((i : Int) + cn) = natI (nearL R cn i) := by
    have k1 : optL (decide ((0 : Int) < q)) ((i : Int) - cn) = natI (if 0 < q then [i - cn] else []) := optL_nat _ (0 < q) (pos_cast q) (i - cn) _ f1
    have k2 : optL (decide ((0 : Int) < m)) ((i : Int) - 1) = natI (if 0 < m then [i - 1] else []) := optL_nat _ (0 < m) (pos_cast m) (i - 1) _ f2
    have k3 : optL (decide ((m : Int) + 1 < cn)) ((i : Int) + 1) = natI (if m + 1 < cn then [i + 1] else []) := optL_nat _ (m + 1 < cn) (lt_cast m cn) (i + 1) _ (fun _ => rfl)
    have k4 : optL (decide ((q : Int) + 1 < R)) ((i : Int) + cn) = natI (if q + 1 < R then [i + cn] else []) := optL_nat _ (q + 1 < R) (lt_cast q R) (i + cn) _ (fun _ => rfl)
    rw [k1, k2, k3, k4]
    unfold nearL
    rw [← hq, ← hm, natI_app, natI_app, natI_app]
  unfold spec_ggNear.f
  first | rw [Option.bind_some] | skip
  rw [if_neg hz, e1, e2, w0, w5]
  by_cases h1 : (0 : Int) < q
  · have hj := nj0_ok 3 (i : Int) (q : Int) (m : Int) [(i : Int) - cn] R cn l (by simp) b1 b2 b3 b4
    unfold nj0 at hj
    rw [if_pos h1, if_pos (by simp), List.nil_append]
    refine hj.trans ?_
    rw [← key, decide_eq_true h1, optL_t]
  · have hj := nj0_ok 3 (i : Int) (q : Int) (m : Int) [] R cn l (by simp) b1 b2 b3 b4
    unfold nj0 at hj
    rw [if_neg (show ¬ (q : Int) > 0 from h1)]
    refine hj.trans ?_
    rw [← key, decide_eq_false h1, optL_f]
end Go.Proofs.Ytnccomklpfbcpaa.A
