/- A marble on a board, in plain lists. -/
import Derived.Test.YtcilbmbgdcepgaaYFnExactAddsWithAGr
namespace Go.Proofs.Ytcilbmbgdcepgaa.A
open Go.RowKit YtcilbmbgdcepgaaW.PrintWords YtcilbmbgdcepgaaW.PrintLast YtcilbmbgdcepgaaW.PrintMore P T
set_option linter.unusedVariables false
set_option linter.unusedSimpArgs false

/-- Where a marble goes from a cell. -/
def goesC (x : S71) (side : Int) : Int :=
 if x.f0 = 1 then -1 else if x.f0 = 2 then 1 else if x.f0 = 3 ∨ x.f0 = 6 then 2 * x.f1 - 1 else if x.f0 = 4 then -side else 0
def turnC (x : S71) : S71 := ⟨x.f0, 1 - x.f1⟩
/-- All gears of a group are turned. -/
def turnAll (groups : List Int) (g : Int) : Nat → List S71 → List S71
 | _, [] => []
 | i, y :: l => (if y.f0 = 6 ∧ rd groups (i : Int) = g then turnC y else y) :: turnAll groups g (i + 1) l
/-- What a marble turns in a cell. -/
def passC (groups : List Int) (cs : List S71) (i : Nat) : List S71 :=
 let x := cs.getD i ⟨0, 0⟩
 if x.f0 = 3 then cs.set i (turnC x) else if x.f0 = 6 then turnAll groups (rd groups (i : Int)) 0 cs else cs
/-- A marble from a row on, d rows being left: its end, row and column, and the cells behind it. -/
def goC (cols : Nat) (groups : List Int) : Nat → Nat → Int → Int → List S71 → (Int × Int × Int) × List S71
 | 0, row, col, _, cs => ((1, (row : Int), col), cs)
 | d + 1, row, col, side, cs =>
  let i := row * cols + col.toNat
  let x := cs.getD i ⟨0, 0⟩
  if x.f0 = 5 then ((2, (row : Int), col), cs) else
  let g := goesC x side
  let cs' := passC groups cs i
  if 0 ≤ col + g ∧ col + g ≤ (cols : Int) - 1 then goC cols groups d (row + 1) (col + g) (-g) cs' else ((3, (row : Int), col + g), cs')
theorem cellOk_turn {x : S71} (h : CellOk x.f0 x.f1) (hk : x.f0 = 3 ∨ x.f0 = 6) : CellOk (turnC x).f0 (turnC x).f1 := by
 obtain ⟨h1, h2⟩ := h
 exact ⟨h1, by simp only [turnC]; omega⟩
theorem turnAll_len (gs : List Int) (g : Int) : ∀ (l : List S71) (i : Nat), (turnAll gs g i l).length = l.length := by
 intro l
 induction l with
 | nil => intro i; rfl
 | cons y l ih => intro i; simp [turnAll, ih]
theorem turnAll_ok (gs : List Int) (g : Int) : ∀ (l : List S71) (i : Nat), (∀ x ∈ l, CellOk x.f0 x.f1) → ∀ x ∈ turnAll gs g i l, CellOk x.f0 x.f1 := by
 intro l
 induction l with
 | nil => intro i _ x hx; cases hx
 | cons y l ih =>
  intro i h x hx
  simp only [turnAll, List.mem_cons] at hx
  rcases hx with hx | hx
  ·subst hx
   split
   ·rename_i hc; exact cellOk_turn (h y (List.mem_cons_self ..)) (.inr hc.1)
   ·exact h y (List.mem_cons_self ..)
  ·exact ih (i + 1) (fun z hz => h z (List.mem_cons_of_mem _ hz)) x hx
theorem passC_len (gs : List Int) (cs : List S71) (i : Nat) : (passC gs cs i).length = cs.length := by
 unfold passC
 simp only
 split
 ·simp
 ·split
  ·exact turnAll_len ..
  ·rfl
theorem getD_ok {cs : List S71} (h : ∀ x ∈ cs, CellOk x.f0 x.f1) (i : Nat) : CellOk (cs.getD i ⟨0, 0⟩).f0 (cs.getD i ⟨0, 0⟩).f1 := by
 by_cases hi : i < cs.length
 ·rw [← List.getElem_eq_getD (h := hi)]; exact h _ (List.getElem_mem hi)
 ·rw [List.getD_eq_getElem?_getD, List.getElem?_eq_none (by omega)]; exact ⟨by decide, .inl rfl⟩
theorem passC_ok (gs : List Int) (cs : List S71) (i : Nat) (h : ∀ x ∈ cs, CellOk x.f0 x.f1) : ∀ x ∈ passC gs cs i, CellOk x.f0 x.f1 := by
 intro x hx
 unfold passC at hx
 simp only at hx
 split at hx
 ·rename_i h3
  rcases List.mem_or_eq_of_mem_set hx with hx | hx
  ·exact h x hx
  ·subst hx; exact cellOk_turn (getD_ok h i) (.inl h3)
 ·split at hx
  ·exact turnAll_ok _ _ _ _ h x hx
  ·exact h x hx
theorem passC_bo {R C : Int} {gs : List Int} {cs : List S71} {i : Nat} (h : BoOk R C cs) : BoOk R C (passC gs cs i) := ⟨h.1, h.2.1, by rw [passC_len]; exact h.2.2.1, passC_ok _ _ _ h.2.2.2⟩
/-- One step of the loop that turns all gears of a group. -/
theorem turnAll_step {gs : List Int} {g : Int} {cur Q : List S71} {i : Nat} (hi : i < cur.length) (h : cur.take i ++ turnAll gs g i (cur.drop i) = Q) :
  (((cur.getD i ⟨0, 0⟩).f0 = 6 ∧ rd gs (i : Int) = g) → (cur.set i (turnC (cur.getD i ⟨0, 0⟩))).take (i + 1) ++ turnAll gs g (i + 1) ((cur.set i (turnC (cur.getD i ⟨0, 0⟩))).drop (i + 1)) = Q) ∧
   (¬ ((cur.getD i ⟨0, 0⟩).f0 = 6 ∧ rd gs (i : Int) = g) → cur.take (i + 1) ++ turnAll gs g (i + 1) (cur.drop (i + 1)) = Q) := by
 have hd : cur.drop i = cur.getD i ⟨0, 0⟩ :: cur.drop (i + 1) := by rw [← List.getElem_eq_getD (h := hi)]; exact List.drop_eq_getElem_cons hi
 rw [hd, turnAll] at h
 constructor
 ·intro hc
  rw [if_pos hc] at h
  rw [List.drop_set_of_lt (by omega), ← h, List.take_set, List.take_succ_eq_append_getElem hi, List.set_append_right _ _ (by simp; omega)]
  simp [show i - min i cur.length = 0 by omega]
 ·intro hc
  rw [if_neg hc] at h
  rw [← h, List.take_succ_eq_append_getElem hi, List.getElem_eq_getD (fallback := ⟨0, 0⟩)]
  simp
/-- Without gears a board has no groups. -/
theorem groupsL_none (rows cols : Nat) (cs : List S71) (h : ∀ x ∈ cs, gearB x = false) : ∀ (d i : Nat) (g : Int) (out : List Int), groupsL rows cols cs d i g out = out := by
 have hg : ∀ i, gearB (cs.getD i ⟨0, 0⟩) = false := by
  intro i
  by_cases hi : i < cs.length
  ·rw [← List.getElem_eq_getD (h := hi)]; exact h _ (List.getElem_mem hi)
  ·rw [List.getD_eq_getElem?_getD, List.getElem?_eq_none (by omega)]; rfl
 intro d
 induction d with
 | zero => intro i g out; rfl
 | succ d ih => intro i g out; rw [groupsL, if_neg (by rw [hg i]; simp)]; exact ih ..
/-- The groups of a board. -/
def grpL (R C : Nat) (cs : List S71) : List Int := groupsL R C cs (R * C) 0 0 (List.replicate (R * C) (-1))
/-- What a marble alone comes to. -/
def fallL (R C : Nat) (cs : List S71) (col : Int) : (Int × Int × Int) × List S71 := goC C (grpL R C cs) R 0 col 0 cs
theorem goC_bo {R C : Int} (cols : Nat) (gs : List Int) : ∀ (d row : Nat) (col side : Int) (cs : List S71), BoOk R C cs → BoOk R C (goC cols gs d row col side cs).2 := by
 intro d
 induction d with
 | zero => intro row col side cs h; exact h
 | succ d ih =>
  intro row col side cs h
  rw [goC]
  simp only
  split
  ·exact h
  ·split
   ·exact ih _ _ _ _ (passC_bo h)
   ·exact passC_bo h
end Go.Proofs.Ytcilbmbgdcepgaa.A
