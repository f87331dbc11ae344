/- What the printed functions that write a value into chosen bits of a board come to. -/
import Derived.Test.YtcilbmbgdcepgaaZFnExactAddsWith0
import Derived.Test.YtcilbmbgdcepgaaYFnExactAddsWithABits
namespace Go.Proofs.Ytcilbmbgdcepgaa.A
open Go.RowKit YtcilbmbgdcepgaaW.PrintWords YtcilbmbgdcepgaaW.PrintLast YtcilbmbgdcepgaaW.PrintMore P T
set_option linter.unusedVariables false
set_option linter.unusedSimpArgs false

def bitV (v : Int) (i : Int) : Int := Go.bits .and .i64 (shr .i64 v i) 1
/-- The cells with the bits of v from the i-th on as the states of the cells that a list names. -/
def withGo (v : Int) : Int → List Int → List S71 → List S71
 | _, [], l => l
 | i, x :: xs, l => withGo v (i + 1) xs (l.set x.toNat ⟨(rd_T71 l x).f0, bitV v i⟩)
theorem withGo_length (v : Int) : ∀ (xs : List Int) (i : Int) (l : List S71), (withGo v i xs l).length = l.length := by
 intro xs
 induction xs with
 | nil => intro i l; rfl
 | cons x xs ih => intro i l; simp [withGo, ih]
theorem shl5 {n : Nat} (h : 1 ≤ n ∧ n ≤ 5) : IntKind.u64.wrap (n : Int) = n ∧ 2 ≤ shl .i64 1 (n : Int) ∧ shl .i64 1 (n : Int) ≤ 32 := by
 have : n = 1 ∨ n = 2 ∨ n = 3 ∨ n = 4 ∨ n = 5 := by omega
 rcases this with rfl | rfl | rfl | rfl | rfl <;> decide
def WithOk (r c : Int) (l : List S71) (bits : List Int) (v : Int) : Prop := ChoOk r c l bits ∧ 0 ≤ v ∧ v < shl .i64 1 (bits.length : Int)
instance (r c : Int) (l : List S71) (bits : List Int) (v : Int) : Decidable (WithOk r c l bits v) := by unfold WithOk; infer_instance
def withB (r c : Int) (l : List S71) (bits : List Int) (v : Int) : Int × Int × List S71 × Bool := if WithOk r c l bits v then (r, c, withGo v 0 bits l, true) else (0, 0, [], false)
theorem withB_len (r c : Int) (l : List S71) (bits : List Int) (v : Int) : (withB r c l bits v).2.2.1.length ≤ 90 := by
 unfold withB
 split
 ·rename_i h; rw [withGo_length]; exact h.1.1.len
 ·simp
theorem bcWith_loop (r c v : Int) (bits : List Int) (hb : bits.length ≤ 5) (n : Nat) : ∀ (suf pre : List Int) (l : List S71), bits = pre ++ suf → l.length = n → (∀ x ∈ suf, 0 ≤ x ∧ x < (n : Int)) →
  Ev (fun k => spec_bcWith.l0 k v bits (bits.length : Int) (pre.length : Int) r c l) (r, c, withGo v pre.length suf l) := by
 intro suf
 induction suf with
 | nil =>
  intro pre l h1 h2 h3
  subst h1
  exact Ev.step (fun k => spec_bcWith.l0.eq_2 ..) (ev_neg (by simp) (ev_const rfl))
 | cons x suf ih =>
  intro pre l h1 h2 h3
  subst h1
  have hlt := lt_mid pre x suf
  have hx := h3 x List.mem_cons_self
  have hp : pre.length < 5 := by simp at hb; omega
  have ht : spec_ttBit.f v (pre.length : Int) = some (bitV v pre.length) := by
   unfold spec_ttBit.f bitV
   rw [u64b ⟨pre.length, hp⟩, if_pos (by simp)]
  refine Ev.step (fun k => spec_bcWith.l0.eq_2 ..) (ev_pos hlt (ev_pos (by omega) (ev_pos hlt (ev_bindc ht ?_))))
  rw [rd_mid, next_mid pre x suf (by simp only [maxLen]; omega)]
  refine ev_pos hx.1 (ev_pos (by rw [h2]; exact hx.2) ?_)
  have := ih (pre ++ [x]) (l.set x.toNat ⟨(rd_T71 l x).f0, bitV v pre.length⟩) (assoc_mid _ _ _) (by simpa using h2) (fun y hy => h3 y (List.mem_cons_of_mem _ hy))
  simpa [withGo] using this
theorem bcWith (r c v : Int) (bits : List Int) (l : List S71) (hb : bits.length ≤ 5) (hl : l.length ≤ 90) (hx : ∀ x ∈ bits, 0 ≤ x ∧ x < l.length) : Ev (fun k => spec_bcWith.f k r c l bits v) (r, c, withGo v 0 bits l) := by
 unfold spec_bcWith.f
 refine ev_bindc (a := (r, c, l)) ?_ (bcWith_loop r c v bits hb l.length bits [] l rfl rfl hx)
 unfold spec_boOwn.f
 rw [Option.bind_some, if_pos (by simp; omega)]; rfl
theorem withBits_loop (r c v : Int) (bits : List Int) (hb : bits.length ≤ 5) (n : Nat) : ∀ (suf pre : List Int) (l : List S71), bits = pre ++ suf → l.length = n → (∀ x ∈ suf, 0 ≤ x ∧ x < (n : Int)) →
  Ev (fun k => impl_withBits.l0 k v bits (bits.length : Int) (pre.length : Int) r c l) (r, c, withGo v pre.length suf l) := by
 intro suf
 induction suf with
 | nil =>
  intro pre l h1 h2 h3
  subst h1
  exact Ev.step (fun k => impl_withBits.l0.eq_2 ..) (ev_neg (by simp) (ev_const rfl))
 | cons x suf ih =>
  intro pre l h1 h2 h3
  subst h1
  have hlt := lt_mid pre x suf
  have hx := h3 x List.mem_cons_self
  refine Ev.step (fun k => impl_withBits.l0.eq_2 ..) (ev_pos hlt (ev_pos (by omega) (ev_pos hlt ?_)))
  rw [rd_mid, next_mid pre x suf (by simp only [maxLen]; omega)]
  refine ev_pos hx.1 (ev_pos (by rw [h2]; exact hx.2) ?_)
  have := ih (pre ++ [x]) (l.set x.toNat ⟨(rd_T71 l x).f0, bitV v pre.length⟩) (assoc_mid _ _ _) (by simpa using h2) (fun y hy => h3 y (List.mem_cons_of_mem _ hy))
  simpa [withGo, bitV] using this
theorem withBits (r c v : Int) (bits : List Int) (l : List S71) (hb : bits.length ≤ 5) (hl : l.length ≤ 90) (hx : ∀ x ∈ bits, 0 ≤ x ∧ x < l.length) : Ev (fun k => impl_withBits.f k r c l bits v) (r, c, withGo v 0 bits l) := by
 unfold impl_withBits.f
 refine ev_bindc (a := (r, c, l)) ?_ (withBits_loop r c v bits hb l.length bits [] l rfl rfl hx)
 unfold impl_copyBoard.f
 rw [Option.bind_some, if_pos (by simp; omega)]; rfl
end Go.Proofs.Ytcilbmbgdcepgaa.A
