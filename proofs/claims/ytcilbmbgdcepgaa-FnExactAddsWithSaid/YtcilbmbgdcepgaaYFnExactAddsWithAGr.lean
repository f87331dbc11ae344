/- The groups of gears and cogs of a board, in plain lists: both programs search them alike. -/
import Derived.Test.YtcilbmbgdcepgaaYFnExactAddsWithABo
namespace Go.Proofs.Ytcilbmbgdcepgaa.A
open Go.RowKit YtcilbmbgdcepgaaW.PrintWords YtcilbmbgdcepgaaW.PrintLast YtcilbmbgdcepgaaW.PrintMore P T
set_option linter.unusedVariables false
set_option linter.unusedSimpArgs false

/-- The cells beside a cell: above, left, right, below. -/
def nearL (rows cols i : Nat) : List Nat :=
 (if 0 < i / cols then [i - cols] else []) ++ (if 0 < i % cols then [i - 1] else []) ++ (if i % cols + 1 < cols then [i + 1] else []) ++ (if i / cols + 1 < rows then [i + cols] else [])
theorem nearL_lt (rows cols i : Nat) (h : i < rows * cols) : ∀ x ∈ nearL rows cols i, x < rows * cols := by
 intro x hx
 have hc : 0 < cols := Nat.pos_of_ne_zero (fun e => by subst e; simp at h)
 have hd := Nat.div_add_mod i cols
 have hm := Nat.mod_lt i hc
 have hq : i / cols < rows := Nat.div_lt_of_lt_mul (by rw [Nat.mul_comm]; exact h)
 simp only [nearL, List.mem_append] at hx
 rcases hx with ((hx | hx) | hx) | hx
 ·split at hx
  ·simp at hx; omega
  ·simp at hx
 ·split at hx
  ·simp at hx; omega
  ·simp at hx
 ·split at hx
  ·simp at hx
   subst hx
   have : (i / cols + 1) * cols ≤ rows * cols := Nat.mul_le_mul_right _ hq
   rw [Nat.add_mul, Nat.mul_comm] at this
   omega
  ·simp at hx
 ·split at hx
  ·rename_i h2
   simp at hx
   subst hx
   have : (i / cols + 2) * cols ≤ rows * cols := Nat.mul_le_mul_right _ h2
   rw [Nat.add_mul, Nat.mul_comm] at this
   omega
  ·simp at hx
def gearB (x : S71) : Bool := decide (x.f0 = 6) || decide (x.f0 = 7)
/-- The neighbours that are gears without a group get the group g and are appended. -/
def visitL (cs : List S71) (g : Int) : List Nat → List Int → List Nat → List Int × List Nat
 | [], out, op => (out, op)
 | x :: l, out, op => if gearB (cs.getD x ⟨0, 0⟩) = true ∧ out.getD x 0 < 0 then visitL cs g l (out.set x g) (op ++ [x]) else visitL cs g l out op
/-- The group of the open cells from k on. -/
def bfsL (rows cols : Nat) (cs : List S71) (g : Int) : Nat → Nat → List Int → List Nat → List Int × List Nat
 | 0, _, out, op => (out, op)
 | d + 1, k, out, op => if k < op.length then bfsL rows cols cs g d (k + 1) (visitL cs g (nearL rows cols (op.getD k 0)) out op).1 (visitL cs g (nearL rows cols (op.getD k 0)) out op).2 else (out, op)
def negs (out : List Int) : Nat := (out.filter fun x => x < 0).length
theorem negs_set : ∀ (out : List Int) (x : Nat) (g : Int), 0 ≤ g → x < out.length → out.getD x 0 < 0 → negs (out.set x g) + 1 = negs out := by
 intro out
 induction out with
 | nil => intro x g _ h; simp at h
 | cons y out ih =>
  intro x g hg hx hn
  cases x with
  | zero =>
   simp at hn
   simp [negs, List.filter_cons, hn, show ¬ g < 0 by omega]
  | succ x =>
   have h1 := ih x g hg (by simpa using hx) (by simpa using hn)
   simp only [negs, List.set_cons_succ, List.filter_cons] at h1 ⊢
   by_cases h : y < 0
   ·simp [h]; omega
   ·simp [h]; exact h1
theorem visitL_ok (cs : List S71) (g : Int) (hg : 0 ≤ g) : ∀ (l : List Nat) (out : List Int) (op : List Nat), (∀ x ∈ l, x < out.length) → (∀ x ∈ op, x < out.length) →
  (visitL cs g l out op).1.length = out.length ∧ negs (visitL cs g l out op).1 + (visitL cs g l out op).2.length = negs out + op.length ∧ (∀ x ∈ (visitL cs g l out op).2, x < out.length) := by
 intro l
 induction l with
 | nil => intro out op _ h; exact ⟨rfl, rfl, h⟩
 | cons y l ih =>
  intro out op hl ho
  unfold visitL
  by_cases h : gearB (cs.getD y ⟨0, 0⟩) = true ∧ out.getD y 0 < 0
  ·rw [if_pos h]
   have hy := hl y (List.mem_cons_self ..)
   obtain ⟨h1, h2, h3⟩ := ih (out.set y g) (op ++ [y]) (fun x hx => by simpa using hl x (List.mem_cons_of_mem _ hx)) (fun x hx => by
    rcases List.mem_append.1 hx with hx | hx
    ·simpa using ho x hx
    ·simp at hx; subst hx; simpa using hy)
   have h4 := negs_set out y g hg hy h.2
   refine ⟨by simpa using h1, ?_, by simpa using h3⟩
   rw [h2]; simp; omega
  ·rw [if_neg h]
   exact ih out op (fun x hx => hl x (List.mem_cons_of_mem _ hx)) ho
theorem visitL_le (cs : List S71) (g : Int) : ∀ (l : List Nat) (out : List Int) (op : List Nat), op.length ≤ (visitL cs g l out op).2.length := by
 intro l
 induction l with
 | nil => intro out op; exact Nat.le_refl _
 | cons y l ih =>
  intro out op
  unfold visitL
  split
  ·exact Nat.le_trans (by simp) (ih ..)
  ·exact ih ..
/-- What one step of the queue leaves: the same length, one step less to go. -/
theorem bfsL_step (rows cols : Nat) (cs : List S71) (g : Int) (hg : 0 ≤ g) (d k : Nat) (out : List Int) (op : List Nat) (hn : out.length = rows * cols) (ho : ∀ x ∈ op, x < out.length) (hk : k < op.length) (h : negs out + (op.length - k) ≤ d + 1) :
  (visitL cs g (nearL rows cols (op.getD k 0)) out op).1.length = rows * cols ∧ (∀ x ∈ (visitL cs g (nearL rows cols (op.getD k 0)) out op).2, x < rows * cols) ∧ k + 1 ≤ (visitL cs g (nearL rows cols (op.getD k 0)) out op).2.length ∧
  negs (visitL cs g (nearL rows cols (op.getD k 0)) out op).1 + ((visitL cs g (nearL rows cols (op.getD k 0)) out op).2.length - (k + 1)) ≤ d := by
 have hx : op.getD k 0 < rows * cols := by
  rw [← hn]; apply ho
  rw [← List.getElem_eq_getD (h := hk)]; exact List.getElem_mem hk
 obtain ⟨h2, h3, h4⟩ := visitL_ok cs g hg (nearL rows cols (op.getD k 0)) out op (fun x hx' => by rw [hn]; exact nearL_lt rows cols _ hx x hx') ho
 have h5 := visitL_le cs g (nearL rows cols (op.getD k 0)) out op
 exact ⟨h2.trans hn, fun x hx' => by rw [← hn]; exact h4 x hx', by omega, by omega⟩
theorem bfsL_len (rows cols : Nat) (cs : List S71) (g : Int) (hg : 0 ≤ g) : ∀ (d k : Nat) (out : List Int) (op : List Nat), out.length = rows * cols → (∀ x ∈ op, x < rows * cols) → negs out + (op.length - k) ≤ d → (bfsL rows cols cs g d k out op).1.length = rows * cols := by
 intro d
 induction d with
 | zero => intro k out op hn _ _; exact hn
 | succ d ih =>
  intro k out op hn ho h
  unfold bfsL
  by_cases h1 : k < op.length
  ·rw [if_pos h1]
   obtain ⟨h2, h3, h4, h5⟩ := bfsL_step rows cols cs g hg d k out op hn (fun x hx => by rw [hn]; exact ho x hx) h1 h
   exact ih (k + 1) _ _ h2 h3 h5
  ·rw [if_neg h1]; exact hn
theorem negs_le (out : List Int) : negs out ≤ out.length := List.length_filter_le ..
/-- The groups of the cells from i on. -/
def groupsL (rows cols : Nat) (cs : List S71) : Nat → Nat → Int → List Int → List Int
 | 0, _, _, out => out
 | d + 1, i, g, out => if gearB (cs.getD i ⟨0, 0⟩) = true ∧ out.getD i 0 < 0 then groupsL rows cols cs d (i + 1) (g + 1) (bfsL rows cols cs g (rows * cols) 0 (out.set i g) [i]).1 else groupsL rows cols cs d (i + 1) g out
end Go.Proofs.Ytcilbmbgdcepgaa.A
