/- A marble falls on a board whose chosen bits have each value in turn: with which values it ends in its own column, and what it always adds; in plain words. -/
import Derived.Test.YtcilbmbgdcepgaaYFnExactAddsWithAWith
import Derived.Test.YtcilbmbgdcepgaaYFnExactAddsWithAGo
namespace Go.Proofs.Ytcilbmbgdcepgaa.A
open Go.RowKit YtcilbmbgdcepgaaW.PrintWords YtcilbmbgdcepgaaW.PrintLast YtcilbmbgdcepgaaW.PrintMore P T
set_option linter.unusedVariables false
set_option linter.unusedSimpArgs false

def CarOk (r c : Int) (l : List S71) (col : Int) (bits : List Int) : Prop := ChoOk r c l bits ∧ 0 ≤ col ∧ col < c
instance (r c : Int) (l : List S71) (col : Int) (bits : List Int) : Decidable (CarOk r c l col bits) := by unfold CarOk; infer_instance
def fallV (r c : Int) (l : List S71) (col : Int) (bits : List Int) (v : Nat) : (Int × Int × Int) × List S71 := fallL r.toNat c.toNat (withGo (v : Int) 0 bits l) col
def carGo (r c : Int) (l : List S71) (col : Int) (bits : List Int) : Nat → Nat → List Int → List Int
 | 0, _, acc => acc
 | d + 1, i, acc => carGo r c l col bits d (i + 1) (if (fallV r c l col bits i).1.1 = 1 ∧ (fallV r c l col bits i).1.2.2 = col then acc ++ [(i : Int)] else acc)
def resCB (r c : Int) (l : List S71) (col : Int) (bits : List Int) : List Int × Bool := if CarOk r c l col bits then (carGo r c l col bits (2 ^ bits.length) 0 [], true) else ([], false)
def dV (r c : Int) (l : List S71) (col : Int) (bits : List Int) (v : Nat) : Int := Int.tmod (VB (bitF (fallV r c l col bits v).2 bits) bits.length - (v : Int) + ((2 ^ bits.length : Nat) : Int)) ((2 ^ bits.length : Nat) : Int)
def addGo (r c : Int) (l : List S71) (col : Int) (bits : List Int) : Nat → Nat → Int → Int × Bool
 | 0, _, a => (a, true)
 | d + 1, i, a => if 0 ≤ a ∧ a ≠ dV r c l col bits i then (0, false) else addGo r c l col bits d (i + 1) (dV r c l col bits i)
def resAW (r c : Int) (l : List S71) (col : Int) (bits : List Int) : Int × Bool := if CarOk r c l col bits then addGo r c l col bits (2 ^ bits.length) 0 (-1) else (0, false)
theorem carGo_len (r c : Int) (l : List S71) (col : Int) (bits : List Int) : ∀ (d i : Nat) (acc : List Int), (carGo r c l col bits d i acc).length ≤ acc.length + d := by
 intro d
 induction d with
 | zero => intro i acc; exact Nat.le_refl _
 | succ d ih =>
  intro i acc
  refine Nat.le_trans (ih _ _) ?_
  split
  ·simp; omega
  ·omega
theorem pow5 {n : Nat} (h : 1 ≤ n ∧ n ≤ 5) : 2 ≤ 2 ^ n ∧ 2 ^ n ≤ 32 := by
 have : n = 1 ∨ n = 2 ∨ n = 3 ∨ n = 4 ∨ n = 5 := by omega
 rcases this with rfl | rfl | rfl | rfl | rfl <;> decide
theorem pw5 {n : Nat} (h : 1 ≤ n ∧ n ≤ 5) : IntKind.i64.wrap ((2 : Int) ^ n) = ((2 ^ n : Nat) : Int) ∧ IntKind.u64.wrap (n : Int) = n := by
 have : n = 1 ∨ n = 2 ∨ n = 3 ∨ n = 4 ∨ n = 5 := by omega
 rcases this with rfl | rfl | rfl | rfl | rfl <;> decide
theorem resCB_len (r c : Int) (l : List S71) (col : Int) (bits : List Int) : (resCB r c l col bits).1.length ≤ 32 := by
 unfold resCB
 by_cases h : CarOk r c l col bits
 ·rw [if_pos h]
  have h1 := carGo_len r c l col bits (2 ^ bits.length) 0 []
  have h2 := pow5 h.1.len
  simp only [List.length_nil] at h1
  show (carGo r c l col bits (2 ^ bits.length) 0 []).length ≤ 32
  omega
 ·rw [if_neg h]; simp
theorem bitVb : ∀ (v : Fin 32) (i : Fin 5), bitV ((v.val : Nat) : Int) ((i.val : Nat) : Int) = 0 ∨ bitV ((v.val : Nat) : Int) ((i.val : Nat) : Int) = 1 := by unfold bitV; decide
theorem goT_turn {l : List S71} : ∀ {rest pre : List Int}, goT l pre rest = true → ∀ x ∈ rest, turnsI l x = true := by
 intro rest
 induction rest with
 | nil => intro pre _ x hx; simp at hx
 | cons y rest ih =>
  intro pre h x hx
  simp only [goT, Bool.and_eq_true, decide_eq_true_eq] at h
  rcases List.mem_cons.1 hx with rfl | hx
  ·exact h.1.1.2
  ·exact ih h.2 x hx
theorem ChoOk.turn {r c : Int} {l : List S71} {bits : List Int} (h : ChoOk r c l bits) : ∀ x ∈ bits, (rd_T71 l x).f0 = 3 ∨ (rd_T71 l x).f0 = 6 := fun x hx => by
 have h1 := h.2
 simp only [areT, Bool.and_eq_true] at h1
 have h2 := goT_turn h1.2 x hx
 rw [turnsI_eq h.1 (h.mem x hx).1 (h.mem x hx).2] at h2
 exact of_decide_eq_true h2
theorem kind_set (l : List S71) (x y b : Int) : (rd_T71 (l.set x.toNat ⟨(rd_T71 l x).f0, b⟩) y).f0 = (rd_T71 l y).f0 := by
 unfold rd_T71
 rw [List.getD_eq_getElem?_getD, List.getD_eq_getElem?_getD, List.getD_eq_getElem?_getD, List.getElem?_set]
 by_cases h : x.toNat = y.toNat
 ·rw [if_pos h]
  by_cases h2 : x.toNat < l.length
  ·rw [if_pos h2, h]; rfl
  ·rw [if_neg h2, List.getElem?_eq_none (by omega)]
 ·rw [if_neg h]
theorem withGo_cells (v : Nat) (hv : v < 32) : ∀ (xs : List Int) (i : Nat) (l : List S71), i + xs.length ≤ 5 → (∀ x ∈ xs, (rd_T71 l x).f0 = 3 ∨ (rd_T71 l x).f0 = 6) → (∀ y ∈ l, CellOk y.f0 y.f1) → ∀ y ∈ withGo (v : Int) (i : Int) xs l, CellOk y.f0 y.f1 := by
 intro xs
 induction xs with
 | nil => intro i l _ _ h; exact h
 | cons x xs ih =>
  intro i l hi hx h
  simp only [List.length_cons] at hi
  have hb := bitVb ⟨v, hv⟩ ⟨i, by omega⟩
  refine ih (i + 1) _ (by omega) (fun y hy => ?_) (fun y hy => ?_)
  ·rw [kind_set]; exact hx y (List.mem_cons_of_mem _ hy)
  ·rcases List.mem_or_eq_of_mem_set hy with hy | rfl
   ·exact h y hy
   ·have hk := hx x List.mem_cons_self
    exact ⟨by show 0 ≤ (rd_T71 l x).f0 ∧ (rd_T71 l x).f0 ≤ 7; omega, by show bitV (v : Int) (i : Int) = 0 ∨ bitV (v : Int) (i : Int) = 1 ∧ ((rd_T71 l x).f0 = 3 ∨ (rd_T71 l x).f0 = 6); exact hb.imp_right (fun h1 => ⟨h1, hk⟩)⟩
theorem withGo_ok {r c : Int} {l : List S71} {bits : List Int} (h : ChoOk r c l bits) {v : Nat} (hv : v < 2 ^ bits.length) : BoOk r c (withGo (v : Int) 0 bits l) :=
 ⟨h.1.1, h.1.2.1, by rw [withGo_length]; exact h.1.2.2.1, withGo_cells v (by have := (pow5 h.len).2; omega) bits 0 l (by have := h.len; omega) h.turn h.1.2.2.2⟩
theorem fallV_ok {r c : Int} {l : List S71} {col : Int} {bits : List Int} (h : ChoOk r c l bits) {v : Nat} (hv : v < 2 ^ bits.length) : BoOk r c (fallV r c l col bits v).2 := by
 unfold fallV fallL
 exact goC_bo _ _ _ _ _ _ _ (withGo_ok h hv)
theorem dV_bd {r c : Int} {l : List S71} {col : Int} {bits : List Int} (h : ChoOk r c l bits) {v : Nat} (hv : v < 2 ^ bits.length) : 0 ≤ dV r c l col bits v ∧ dV r c l col bits v ≤ 32 ∧ 0 ≤ VB (bitF (fallV r c l col bits v).2 bits) bits.length ∧ VB (bitF (fallV r c l col bits v).2 bits) bits.length ≤ 32 := by
 have h1 := VB_32 (fun i => stX_bit (fallV_ok (col := col) h hv) (rd bits i)) bits.length h.len.2
 have h2 := pow5 h.len
 refine ⟨?_, ?_, h1⟩
 ·unfold dV
  exact Int.tmod_nonneg _ (by have := h1.1; unfold bitF; omega)
 ·unfold dV
  have h3 := Int.tmod_lt_of_pos (VB (bitF (fallV r c l col bits v).2 bits) bits.length - (v : Int) + ((2 ^ bits.length : Nat) : Int)) (b := ((2 ^ bits.length : Nat) : Int)) (by omega)
  omega
end Go.Proofs.Ytcilbmbgdcepgaa.A
