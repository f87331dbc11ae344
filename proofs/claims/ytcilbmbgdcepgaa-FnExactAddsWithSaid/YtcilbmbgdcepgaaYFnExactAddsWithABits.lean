/- What the printed functions on chosen bits of a board come to. -/
import Derived.Test.YtcilbmbgdcepgaaZFnExactAddsWith0
import Derived.Test.YtcilbmbgdcepgaaYFnExactAddsWithABo
import Derived.Test.YtcilbmbgdcepgaaYFnExactAddsWithABaseH
namespace Go.Proofs.Ytcilbmbgdcepgaa.A
open Go.RowKit YtcilbmbgdcepgaaW.PrintWords YtcilbmbgdcepgaaW.PrintLast YtcilbmbgdcepgaaW.PrintMore P T
set_option linter.unusedVariables false
set_option linter.unusedSimpArgs false

theorem shlb : ∀ (i : Fin 5) (s : Fin 2), shl .i64 ((s.val : Nat) : Int) ((i.val : Nat) : Int) = (s.val : Int) * 2 ^ i.val := by decide
theorem orb : ∀ (i : Fin 5) (v : Fin 16) (s : Fin 2), v.val < 2 ^ i.val → Go.bits .or .i64 ((v.val : Nat) : Int) ((s.val : Int) * 2 ^ i.val) = (v.val : Int) + (s.val : Int) * 2 ^ i.val := by decide
theorem u64b : ∀ (i : Fin 5), IntKind.u64.wrap ((i.val : Nat) : Int) = ((i.val : Nat) : Int) := by decide
/-- The number with the bits f 0, f 1, .. -/
def VB (f : Nat → Int) : Nat → Int
 | 0 => 0
 | i + 1 => VB f i + f i * 2 ^ i
theorem VB_bound {f : Nat → Int} (hf : ∀ i, f i = 0 ∨ f i = 1) : ∀ i, 0 ≤ VB f i ∧ VB f i < 2 ^ i := by
 intro i
 induction i with
 | zero => exact ⟨Int.le_refl 0, by simp [VB]⟩
 | succ i ih =>
  have h2 : (0 : Int) < 2 ^ i := Int.pow_pos (by decide)
  have e : (2 : Int) ^ (i + 1) = 2 ^ i + 2 ^ i := by rw [Int.pow_succ]; omega
  rcases hf i with hs | hs <;> (simp only [VB, hs, e]; omega)
theorem VB_32 {f : Nat → Int} (hf : ∀ i, f i = 0 ∨ f i = 1) (i : Nat) (hi : i ≤ 5) : 0 ≤ VB f i ∧ VB f i ≤ 32 := by
 have := VB_bound hf i
 have h2 : (2 : Int) ^ i ≤ 32 := by
  have : i = 0 ∨ i = 1 ∨ i = 2 ∨ i = 3 ∨ i = 4 ∨ i = 5 := by omega
  rcases this with rfl | rfl | rfl | rfl | rfl | rfl <;> decide
 omega
theorem shl_f {f : Nat → Int} (hf : ∀ i, f i = 0 ∨ f i = 1) (i : Nat) (hi : i < 5) : shl .i64 (f i) (i : Int) = f i * 2 ^ i := by
 rcases hf i with hs | hs <;> rw [hs]
 ·exact shlb ⟨i, hi⟩ ⟨0, by decide⟩
 ·exact shlb ⟨i, hi⟩ ⟨1, by decide⟩
theorem or_f {f : Nat → Int} (hf : ∀ i, f i = 0 ∨ f i = 1) (i : Nat) (hi : i < 5) : Go.bits .or .i64 (VB f i) (shl .i64 (f i) (i : Int)) = VB f (i + 1) := by
 have hb := VB_bound hf i
 obtain ⟨v, hv⟩ := Int.eq_ofNat_of_zero_le hb.1
 have hp : (2 : Int) ^ i ≤ 16 := by
  have : i = 0 ∨ i = 1 ∨ i = 2 ∨ i = 3 ∨ i = 4 := by omega
  rcases this with rfl | rfl | rfl | rfl | rfl <;> decide
 have hv2 : v < 2 ^ i := by
  have := hb.2; rw [hv] at this; exact_mod_cast this
 have hv3 : v < 16 := by have := hb.2; omega
 rw [shl_f hf i hi, VB, hv]
 rcases hf i with hs | hs <;> rw [hs]
 ·exact orb ⟨i, hi⟩ ⟨v, hv3⟩ ⟨0, by decide⟩ hv2
 ·exact orb ⟨i, hi⟩ ⟨v, hv3⟩ ⟨1, by decide⟩ hv2
/-- The state of the cell that a number names. -/
def stX (l : List S71) (x : Int) : Int := (rd_T71 l x).f1
theorem rdc_mem {l : List S71} {i : Int} (h0 : 0 ≤ i) (h1 : i < l.length) : rd_T71 l i ∈ l := by
 obtain ⟨n, rfl⟩ := Int.eq_ofNat_of_zero_le h0
 simp only [rd_T71, Int.toNat_natCast]
 rw [List.getD_eq_getElem?_getD, List.getElem?_eq_getElem (by omega)]
 exact List.getElem_mem _
theorem stX_bit {r c : Int} {l : List S71} (h : BoOk r c l) (x : Int) : stX l x = 0 ∨ stX l x = 1 := by
 unfold stX
 by_cases hx : x.toNat < l.length
 ·have hm : rd_T71 l x ∈ l := by
   unfold rd_T71
   rw [List.getD_eq_getElem?_getD, List.getElem?_eq_getElem hx]; exact List.getElem_mem _
  have := (h.2.2.2 _ hm).2
  omega
 ·unfold rd_T71
  rw [List.getD_eq_getElem?_getD, List.getElem?_eq_none (by omega)]
  exact .inl rfl
def bitF (l : List S71) (bits : List Int) (i : Nat) : Int := stX l (rd bits i)
theorem isTurning (a b : Int) : impl_IsTurning.f a b = some (decide (CellOk a b ∧ (a = 3 ∨ a = 6))) := by
 unfold impl_IsTurning.f
 rw [isCell, Option.bind_some]
 by_cases h : CellOk a b
 ·rw [if_pos (by simpa using h)]
  by_cases h3 : a = 3
  ·rw [if_pos h3, decide_eq_true (show CellOk a b ∧ (a = 3 ∨ a = 6) from ⟨h, .inl h3⟩)]
  ·rw [if_neg h3, Bool.beq_eq_decide_eq, Option.some.injEq, decide_eq_decide]
   exact ⟨fun h6 => ⟨h, .inr h6⟩, fun h6 => h6.2.resolve_left h3⟩
 ·rw [if_neg (by simpa using h), decide_eq_false (fun h2 => h h2.1)]
theorem turnsI_eq {r c : Int} {l : List S71} (h : BoOk r c l) {x : Int} (h0 : 0 ≤ x) (h1 : x < l.length) : turnsI l x = decide ((rd_T71 l x).f0 = 3 ∨ (rd_T71 l x).f0 = 6) := by
 unfold turnsI
 have := h.2.2.2 _ (rdc_mem h0 h1)
 rw [decide_eq_decide, isTurning, Option.some.injEq, decide_eq_true_eq]
 exact ⟨fun h2 => h2.2, fun h2 => ⟨this, h2⟩⟩
theorem goT_mem {l : List S71} : ∀ {rest pre : List Int}, goT l pre rest = true → ∀ x ∈ rest, 0 ≤ x ∧ x < l.length := by
 intro rest
 induction rest with
 | nil => intro pre _ x hx; simp at hx
 | cons y rest ih =>
  intro pre h x hx
  simp only [goT, Bool.and_eq_true, decide_eq_true_eq] at h
  rcases List.mem_cons.1 hx with rfl | hx
  ·exact h.1.1.1
  ·exact ih h.2 x hx
def ChoOk (r c : Int) (l : List S71) (bits : List Int) : Prop := BoOk r c l ∧ areT l bits = true
instance (r c : Int) (l : List S71) (bits : List Int) : Decidable (ChoOk r c l bits) := by unfold ChoOk; infer_instance
theorem ChoOk.len {r c : Int} {l : List S71} {bits : List Int} (h : ChoOk r c l bits) : 1 ≤ bits.length ∧ bits.length ≤ 5 := by
 have := h.2
 simp only [areT, Bool.and_eq_true, decide_eq_true_eq] at this
 exact this.1
theorem ChoOk.mem {r c : Int} {l : List S71} {bits : List Int} (h : ChoOk r c l bits) : ∀ x ∈ bits, 0 ≤ x ∧ x < l.length := by
 have := h.2
 simp only [areT, Bool.and_eq_true] at this
 exact goT_mem this.2
def turnIdx : Int → List S71 → List Int
 | _, [] => []
 | i, y :: l => if y.f0 = 3 ∨ y.f0 = 6 then i :: turnIdx (i + 1) l else turnIdx (i + 1) l
theorem turnIdx_mem : ∀ (l : List S71) (i x : Int), x ∈ turnIdx i l ↔ i ≤ x ∧ x < i + l.length ∧ ((l.getD (x - i).toNat z71).f0 = 3 ∨ (l.getD (x - i).toNat z71).f0 = 6) := by
 intro l
 induction l with
 | nil => intro i x; simp [turnIdx]; omega
 | cons y l ih =>
  intro i x
  have hcase : x = i ∨ x ≠ i := by omega
  by_cases hx : x = i
  ·subst hx
   have e : (x - x).toNat = 0 := by omega
   rw [e]
   simp only [turnIdx, List.getD_cons_zero]
   by_cases h : y.f0 = 3 ∨ y.f0 = 6
   ·rw [if_pos h]
    exact ⟨fun _ => ⟨by omega, by simp; omega, h⟩, fun _ => List.mem_cons_self⟩
   ·rw [if_neg h, ih]
    exact ⟨fun h2 => by omega, fun h2 => absurd h2.2.2 h⟩
  ·have key : x ∈ turnIdx i (y :: l) ↔ x ∈ turnIdx (i + 1) l := by
    simp only [turnIdx]
    by_cases h : y.f0 = 3 ∨ y.f0 = 6
    ·rw [if_pos h, List.mem_cons]; exact ⟨fun h2 => h2.resolve_left hx, Or.inr⟩
    ·rw [if_neg h]
   rw [key, ih]
   by_cases hlt : i < x
   ·have e : (x - i).toNat = (x - (i + 1)).toNat + 1 := by omega
    rw [e, List.getD_cons_succ]
    simp only [List.length_cons]
    constructor
    ·rintro ⟨a, b, c⟩; exact ⟨by omega, by omega, c⟩
    ·rintro ⟨a, b, c⟩; exact ⟨by omega, by omega, c⟩
   ·constructor
    ·rintro ⟨a, b, c⟩; omega
    ·rintro ⟨a, b, c⟩; omega
theorem boTurning_loop (l : List S71) (hm : l.length ≤ 1000) : ∀ (suf pre : List S71) (acc : List Int), l = pre ++ suf → acc.length ≤ pre.length →
  Ev (fun k => spec_boTurning.l0 k acc l (l.length : Int) (pre.length : Int)) (acc ++ turnIdx pre.length suf) := by
 have hmx : l.length ≤ maxLen := by simp only [maxLen]; omega
 intro suf
 induction suf with
 | nil =>
  intro pre acc hl ha
  subst hl
  exact Ev.step (fun k => spec_boTurning.l0.eq_2 ..) (ev_neg (not_lt_end _) (ev_const (by simp [turnIdx])))
 | cons y suf ih =>
  intro pre acc hl ha
  subst hl
  have hlen := hm
  simp only [List.length_append, List.length_cons] at hlen
  refine Ev.step (fun k => spec_boTurning.l0.eq_2 ..) (ev_pos (lt_mid _ _ _) (ev_pos (by omega) (ev_pos (lt_mid _ _ _) ?_)))
  simp only [rdc_mid, paTurning, Option.bind_some, decide_eq_true_eq, turnIdx]
  rw [next_mid _ _ _ hmx]
  by_cases h : y.f0 = 3 ∨ y.f0 = 6
  ·refine ev_pos h (ev_pos (by omega) ?_)
   have := ih (pre ++ [y]) (acc ++ [(pre.length : Int)]) (assoc_mid _ _ _) (by simp; omega)
   rw [if_pos h]
   simpa using this
  ·refine ev_neg h ?_
   have := ih (pre ++ [y]) acc (assoc_mid _ _ _) (by simp; omega)
   rw [if_neg h]
   simpa using this
theorem boTurning (r c : Int) (l : List S71) (hm : l.length ≤ 1000) : Ev (fun k => spec_boTurning.f k r c l) (turnIdx 0 l) := by
 unfold spec_boTurning.f
 exact boTurning_loop l hm l [] [] rfl (Nat.le_refl _)
theorem turnIdx_length : ∀ (l : List S71) (i : Int), (turnIdx i l).length ≤ l.length := by
 intro l
 induction l with
 | nil => intro i; simp [turnIdx]
 | cons y l ih =>
  intro i
  have := ih (i + 1)
  simp only [turnIdx]
  split <;> simp <;> omega
theorem chC_ev {r c : Int} {l : List S71} (h : BoOk r c l) : ∀ (rest pre : List Int), pre.length + rest.length ≤ 5 → Ev (fun k => chC k (turnIdx 0 l) pre rest) (goT l pre rest) := by
 have h90 := h.len
 have htl := turnIdx_length l 0
 intro rest
 induction rest with
 | nil => intro pre _; exact ev_const rfl
 | cons x rest ih =>
  intro pre hp
  simp only [List.length_cons] at hp
  simp only [chC, goT]
  refine ev_bind (l1Has (turnIdx 0 l) x (by simp only [maxLen]; omega)) ?_
  have hmem : x ∈ turnIdx 0 l ↔ (0 ≤ x ∧ x < (l.length : Int)) ∧ ((rd_T71 l x).f0 = 3 ∨ (rd_T71 l x).f0 = 6) := by
   rw [turnIdx_mem]
   simp only [Int.sub_zero, Int.zero_add, rd_T71]
   exact ⟨fun h2 => ⟨⟨h2.1, h2.2.1⟩, h2.2.2⟩, fun h2 => ⟨h2.1.1, h2.1.2, h2.2⟩⟩
  simp only [decide_eq_true_eq]
  by_cases hx : x ∈ turnIdx 0 l
  ·obtain ⟨h1, h2⟩ := hmem.1 hx
   refine ev_pos hx (ev_bind (l1Has pre x (by simp only [maxLen]; omega)) ?_)
   rw [decide_eq_true h1, turnsI_eq h h1.1 h1.2, decide_eq_true h2]
   simp only [decide_eq_true_eq, Bool.true_and]
   by_cases h3 : x ∈ pre
   ·refine ev_pos h3 (ev_const ?_)
    simp [h3]
   ·refine ev_neg h3 ?_
    have := ih (pre ++ [x]) (by simp; omega)
    simpa [h3] using this
  ·refine ev_neg hx (ev_const ?_)
   by_cases h1 : 0 ≤ x ∧ x < (l.length : Int)
   ·rw [turnsI_eq h h1.1 h1.2, decide_eq_false (fun h2 => hx (hmem.2 ⟨h1, h2⟩))]
    simp
   ·rw [decide_eq_false h1]; simp
theorem bcChosen (r c : Int) (l : List S71) (bits : List Int) (hm : l.length ≤ maxLen) : Ev (fun k => spec_bcChosen.f k r c l bits) (decide (ChoOk r c l bits)) := by
 unfold spec_bcChosen.f
 refine ev_bind (boGood r c l hm) ?_
 simp only [decide_eq_true_eq]
 by_cases h : BoOk r c l
 ·refine ev_pos h ?_
  have hb : spec_bcBits.f (bits.length : Int) = some (decide (1 ≤ bits.length ∧ bits.length ≤ 5)) := by
   unfold spec_bcBits.f
   rw [in_f, Option.bind_some, Option.some.injEq, decide_eq_decide]
   omega
  refine ev_bindc hb ?_
  simp only [decide_eq_true_eq]
  by_cases h5 : 1 ≤ bits.length ∧ bits.length ≤ 5
  ·refine ev_pos h5 (ev_bind (boTurning r c l (by have := h.len; omega)) ?_)
   have := chC_ev h bits [] (by simp; omega)
   rw [show decide (ChoOk r c l bits) = goT l [] bits from by
    rw [Bool.eq_iff_iff, decide_eq_true_eq]
    unfold ChoOk areT
    rw [decide_eq_true h5, Bool.true_and]
    simp [h]]
   exact this
  ·refine ev_neg h5 (ev_const ?_)
   rw [decide_eq_false (fun h2 : ChoOk r c l bits => h5 h2.len)]
 ·refine ev_neg h (ev_const ?_)
  rw [decide_eq_false (fun h2 : ChoOk r c l bits => h h2.1)]
end Go.Proofs.Ytcilbmbgdcepgaa.A
