/- A board's cell stored in a row of one's own. -/
import Derived.Test.YtcilbmbgdcepgaaZFnExactAddsWith0
import Derived.Test.YtcilbmbgdcepgaaOwnW
namespace Go.Proofs.Ytcilbmbgdcepgaa.P
open Go.RowKit YtcilbmbgdcepgaaW.PrintWords YtcilbmbgdcepgaaW.PrintLast YtcilbmbgdcepgaaW.PrintMore
set_option linter.unusedVariables false
theorem cellPut {w : World} {base g n cap : Nat} {ok : Nat → Prop} {xs : List S71} (h : Kd.R k71 71 w base ok (.slice (some ⟨g, 0, none⟩) n cap) xs) (i : Nat) (hi : i < n) (x : S71) :
  Kd.R k71 71 ((w.setCell ⟨g, i * 2, none⟩ (.int .i64 x.f0)).setCell ⟨g, i * 2 + 1, none⟩ (.int .i64 x.f1)) base ok (.slice (some ⟨g, 0, none⟩) n cap) (xs.set i x) ∧
   (∃ a, w.cell? ⟨g, i * 2, none⟩ = some a) ∧ (∃ a, w.cell? ⟨g, i * 2 + 1, none⟩ = some a) ∧ w.frozen? ⟨g, i * 2, none⟩ = false ∧ w.frozen? ⟨g, i * 2 + 1, none⟩ = false := by
 obtain ⟨ce, hcl, hM, hcc, hfr⟩ := Kd.R_elem h z71 (i : Int) (by omega) (by omega)
 obtain rfl := k71_openM hM
 have hs := (Kd.R_seg h (i : Int) (by omega) (by omega) (seg := [.int .i64 x.f0, .int .i64 x.f1]) (j := 0) hcl hcc (show 2 ≤ 2 by decide) (x' := x) (okp := fun _ => False) (k71_mkM _ _ _ x) (fun _ hk => hk.elim)).1
 have h0 := hcc 0 _ rfl
 have h1 := hcc 1 _ rfl
 have f0 := hfr 0
 have f1 := hfr 1
 simp only [show (k71).sz = 2 from rfl, Int.toNat_natCast, Nat.add_zero] at hs h0 h1 f0 f1
 exact ⟨hs, ⟨_, h0⟩, ⟨_, h1⟩, f0, f1⟩
/-- A row apart stays where a cell of another block is written. -/
theorem rowFar {α : Type} {d : Kd α} {q base : Nat} {ok : Nat → Prop} {W : World} {v : Value} {xs : List α} (h : d.R q W base ok v xs) (hE : d.E = []) {p j : Nat} {u : Value} (hne : some p ≠ v.ownBlock) : d.R q (W.setCell ⟨p, j, none⟩ u) base ok v xs :=
 Kd.R_mono (Kd.R_far (p := ⟨p, j, none⟩) (Kd.R_far1 h hE hne) (fun _ hk => hk.2) u) (fun _ hk => hk.1)
theorem below_of_grown {W W1 : World} (hg : W.grownBy W1 none) : Below W.heap.size W W1 := ⟨hg.os, hg.tape, hg.output, hg.size, fun k hk => hg.block k hk (by simp)⟩
end Go.Proofs.Ytcilbmbgdcepgaa.P
