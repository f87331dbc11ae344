/- What both programs do to a board's cells when a marble passes: the state of such a walk (printed by gen_go.py). -/
import Derived.Test.YtcilbmbgdcepgaaYFnExactAddsWithVCell
import Derived.Test.YtcilbmbgdcepgaaYFnExactAddsWithAGo
import Derived.IntWalk
namespace Go.Proofs.Ytcilbmbgdcepgaa.P
open Go.RowKit YtcilbmbgdcepgaaW.PrintWords YtcilbmbgdcepgaaW.PrintLast YtcilbmbgdcepgaaW.PrintMore Own A
set_option linter.unusedVariables false
set_option linter.unusedSimpArgs false
theorem cellGet {w : World} {base g n cap : Nat} {ok : Nat → Prop} {xs : List S71} (h : Kd.R k71 71 w base ok (.slice (some ⟨g, 0, none⟩) n cap) xs) (i : Nat) (hi : i < n) :
  w.cell? ⟨g, i * 2, none⟩ = some (.int .i64 (xs.getD i ⟨0, 0⟩).f0) ∧ w.cell? ⟨g, i * 2 + 1, none⟩ = some (.int .i64 (xs.getD i ⟨0, 0⟩).f1) ∧ w.frozen? ⟨g, i * 2, none⟩ = false ∧ w.frozen? ⟨g, i * 2 + 1, none⟩ = false := by
 obtain ⟨ce, hcl, hM, hcc, hfr⟩ := Kd.R_elem h ⟨0, 0⟩ (i : Int) (by omega) (by omega)
 obtain rfl := k71_openM hM
 have h0 := hcc 0 _ rfl
 have h1 := hcc 1 _ rfl
 have f0 := hfr 0
 have f1 := hfr 1
 simp only [show (k71).sz = 2 from rfl, Int.toNat_natCast, Nat.add_zero] at h0 h1 f0 f1
 refine ⟨?_, ?_, f0, f1⟩
 ·first | exact h0 | simpa [rdOf] using h0
 ·first | exact h1 | simpa [rdOf] using h1
theorem cellPut1 {w : World} {base g n cap : Nat} {ok : Nat → Prop} {xs : List S71} (h : Kd.R k71 71 w base ok (.slice (some ⟨g, 0, none⟩) n cap) xs) (i : Nat) (hi : i < n) (s : Int) :
  Kd.R k71 71 (w.setCell ⟨g, i * 2 + 1, none⟩ (.int .i64 s)) base ok (.slice (some ⟨g, 0, none⟩) n cap) (xs.set i ⟨(xs.getD i ⟨0, 0⟩).f0, s⟩) := by
 obtain ⟨ce, hcl, hM, hcc, hfr⟩ := Kd.R_elem h ⟨0, 0⟩ (i : Int) (by omega) (by omega)
 obtain rfl := k71_openM hM
 have hs := (Kd.R_seg h (i : Int) (by omega) (by omega) (seg := [.int .i64 s]) (j := 1) hcl hcc (show 2 ≤ 2 by decide) (x' := ⟨(xs.getD i ⟨0, 0⟩).f0, s⟩) (okp := fun _ => False) (k71_mkM _ _ _ ⟨(xs.getD i ⟨0, 0⟩).f0, s⟩) (fun _ hk => hk.elim)).1
 simp only [show (k71).sz = 2 from rfl, Int.toNat_natCast] at hs
 exact hs
/-- The box of the board, its cells in a row that is written, all else kept. -/
structure PaS (w0 w W : World) (P : Nat → Prop) (g n cap : Nat) (bv : Array Value) (cur : List S71) : Prop where
 bA : W.heap[w.heap.size]? = some (.cells bv 24 (0, 0))
 ro : Kd.R k71 71 W w0.heap.size P (.slice (some ⟨g, 0, none⟩) n cap) cur
 be : Below w0.heap.size w0 W
 kp : Kept w W P
 lt : g < w.heap.size
 le : cur.length = n
section
variable {w0 w W W1 : World} {P : Nat → Prop} {g n cap : Nat} {bv : Array Value} {cur : List S71}
theorem PaS.below (h : PaS w0 w W P g n cap bv cur) (hb : Below W.heap.size W W1) : PaS w0 w W1 P g n cap bv cur := ⟨blk_below h.bA hb, Kd.R_below h.ro hb, below_step h.be hb, h.kp.below hb, h.lt, h.le⟩
theorem PaS.put (h : PaS w0 w W P g n cap bv cur) (i : Nat) (hi : i < n) (x : S71) : PaS w0 w ((W.setCell ⟨g, i * 2, none⟩ (.int .i64 x.f0)).setCell ⟨g, i * 2 + 1, none⟩ (.int .i64 x.f1)) P g n cap bv (cur.set i x) := by
 have hl := h.lt
 have hb := Kd.R_base h.ro g rfl
 have hp : P g := h.ro.1 g rfl
 exact ⟨blk_far (blk_far h.bA (p := ⟨g, i * 2, none⟩) (by simp; omega) _) (p := ⟨g, i * 2 + 1, none⟩) (by simp; omega) _, (cellPut h.ro i hi x).1, below_set (below_set h.be hb) hb, (h.kp.setCell (.inl hp) _).setCell (.inl hp) _, hl, by rw [List.length_set]; exact h.le⟩
theorem PaS.put1 (h : PaS w0 w W P g n cap bv cur) (i : Nat) (hi : i < n) (s : Int) : PaS w0 w (W.setCell ⟨g, i * 2 + 1, none⟩ (.int .i64 s)) P g n cap bv (cur.set i ⟨(cur.getD i ⟨0, 0⟩).f0, s⟩) := by
 have hl := h.lt
 have hb := Kd.R_base h.ro g rfl
 have hp : P g := h.ro.1 g rfl
 exact ⟨blk_far h.bA (p := ⟨g, i * 2 + 1, none⟩) (by simp; omega) _, cellPut1 h.ro i hi s, below_set h.be hb, h.kp.setCell (.inl hp) _, hl, by rw [List.length_set]; exact h.le⟩
theorem PaS.out (h : PaS w0 w W P g n cap bv cur) : Kd.R k71 71 W w0.heap.size (fun k_ => (P k_ ∨ w.heap.size ≤ k_)) (.slice (some ⟨g, 0, none⟩) n cap) cur := Kd.R_mono h.ro (fun _ hk => .inl hk)
end
theorem set_ok {cur : List S71} (h : ∀ x ∈ cur, CellOk x.f0 x.f1) (i : Nat) {x : S71} (hx : CellOk x.f0 x.f1) : ∀ y ∈ cur.set i x, CellOk y.f0 y.f1 := by
 intro y hy
 rcases List.mem_or_eq_of_mem_set hy with hy | hy
 ·exact h y hy
 ·rw [hy]; exact hx
theorem wrap_turn {a s : Int} (h : CellOk a s) : IntKind.i64.wrap (1 - s) = 1 - s := IntWalk.i64_in _ (by have := h.2; omega)
end Go.Proofs.Ytcilbmbgdcepgaa.P
