/- What the printed functions on chosen bits of a board come to. -/
import Derived.Test.YtcilbmbgdcepgaaYFnExactAddsWithPx46
import Derived.Test.YtcilbmbgdcepgaaYFnExactAddsWithPx51
import Derived.Test.YtcilbmbgdcepgaaYFnExactAddsWithABits
namespace Go.Proofs.Ytcilbmbgdcepgaa.A
open Go.RowKit YtcilbmbgdcepgaaW.PrintWords YtcilbmbgdcepgaaW.PrintLast YtcilbmbgdcepgaaW.PrintMore P T
set_option linter.unusedVariables false
set_option linter.unusedSimpArgs false
theorem bcRead_loop (r c : Int) (l : List S71) (h : BoOk r c l) (bits : List Int) (h5 : bits.length ≤ 5) (hx : ∀ x ∈ bits, 0 ≤ x ∧ x < l.length) : ∀ (d i : Nat), i + d = bits.length →
  Ev (fun k => spec_bcRead.l0 k (VB (bitF l bits) i) bits (bits.length : Int) i r c l) (VB (bitF l bits) bits.length) := by
 have hf : ∀ i, bitF l bits i = 0 ∨ bitF l bits i = 1 := fun i => stX_bit h _
 intro d
 induction d with
 | zero =>
  intro i hi
  obtain rfl : i = bits.length := by omega
  exact Ev.step (fun k => spec_bcRead.l0.eq_2 ..) (ev_neg (by omega) (ev_const rfl))
 | succ d ih =>
  intro i hi
  have hb := VB_32 hf (i + 1) (by omega)
  have hmem : rd bits (i : Int) ∈ bits := by
   have hil : i < bits.length := by omega
   simp [rd, hil]
  have hxi := hx _ hmem
  refine Ev.step (fun k => spec_bcRead.l0.eq_2 ..) (ev_pos (by omega) (ev_pos (by omega) (ev_pos (by omega) (ev_pos hxi.1 (ev_pos hxi.2 ?_)))))
  rw [u64b ⟨i, by omega⟩]
  refine ev_pos (by simp) ?_
  have e : (rd_T71 l (rd bits (i : Int))).f1 = bitF l bits i := rfl
  simp only [e]
  rw [shl_f hf i (by omega), show VB (bitF l bits) i + bitF l bits i * 2 ^ i = VB (bitF l bits) (i + 1) from rfl, wrap_id (x := VB (bitF l bits) (i + 1)) (by omega) (by omega), wrap_id (x := (i : Int) + 1) (by omega) (by omega)]
  exact ih (i + 1) (by omega)
theorem bcRead (r c : Int) (l : List S71) (h : BoOk r c l) (bits : List Int) (h5 : bits.length ≤ 5) (hx : ∀ x ∈ bits, 0 ≤ x ∧ x < l.length) : Ev (fun k => spec_bcRead.f k r c l bits) (VB (bitF l bits) bits.length) := by
 unfold spec_bcRead.f
 exact bcRead_loop r c l h bits h5 hx bits.length 0 (by omega)
theorem bitsValue_loop (r c : Int) (l : List S71) (h : BoOk r c l) (bits : List Int) (h5 : bits.length ≤ 5) (hx : ∀ x ∈ bits, 0 ≤ x ∧ x < l.length) : ∀ (d i : Nat), i + d = bits.length →
  Ev (fun k => impl_bitsValue.l0 k (VB (bitF l bits) i) bits (bits.length : Int) i r c l) (VB (bitF l bits) bits.length) := by
 have hf : ∀ i, bitF l bits i = 0 ∨ bitF l bits i = 1 := fun i => stX_bit h _
 intro d
 induction d with
 | zero =>
  intro i hi
  obtain rfl : i = bits.length := by omega
  exact Ev.step (fun k => impl_bitsValue.l0.eq_2 ..) (ev_neg (by omega) (ev_const rfl))
 | succ d ih =>
  intro i hi
  have hmem : rd bits (i : Int) ∈ bits := by
   have hil : i < bits.length := by omega
   simp [rd, hil]
  have hxi := hx _ hmem
  refine Ev.step (fun k => impl_bitsValue.l0.eq_2 ..) (ev_pos (by omega) (ev_pos (by omega) (ev_pos (by omega) (ev_pos hxi.1 (ev_pos hxi.2 ?_)))))
  have e : (rd_T71 l (rd bits (i : Int))).f1 = bitF l bits i := rfl
  simp only [e]
  rw [or_f hf i (by omega), wrap_id (x := (i : Int) + 1) (by omega) (by omega)]
  exact ih (i + 1) (by omega)
theorem bitsValue (r c : Int) (l : List S71) (h : BoOk r c l) (bits : List Int) (h5 : bits.length ≤ 5) (hx : ∀ x ∈ bits, 0 ≤ x ∧ x < l.length) : Ev (fun k => impl_bitsValue.f k r c l bits) (VB (bitF l bits) bits.length) := by
 unfold impl_bitsValue.f
 exact bitsValue_loop r c l h bits h5 hx bits.length 0 (by omega)
end Go.Proofs.Ytcilbmbgdcepgaa.A
