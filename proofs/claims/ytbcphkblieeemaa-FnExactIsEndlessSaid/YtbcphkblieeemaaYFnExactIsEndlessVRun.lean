/- A state of a run in a box: what a walk of a run carries from round to round. -/
import Derived.Test.YtbcphkblieeemaaYFnExactIsEndlessARun
namespace Go.Proofs.Ytbcphkblieeemaa.P
open Go.RowKit Go.Proofs.YtbcphkblieeemaaW.PrintWords Go.Proofs.YtbcphkblieeemaaW.PrintLast Go.Proofs.YtbcphkblieeemaaW.PrintMore Go.Proofs.Ytbcphkblieeemaa.Own Go.Proofs.Ytbcphkblieeemaa.A
set_option linter.unusedVariables false
/-- The state of now lies in the box g, its values in a row of the call's own (block g2). -/
structure Now (w0 W : World) (g g2 cap : Nat) (ln : Int) (us : List Int) : Prop where
  box : W.heap[g]? = some (.cells #[.int .i64 ln, .slice (some ⟨g2, 0, none⟩) us.length cap] 31 (0, 0))
  row : Kd.R (Kd.int .i64) 3 W w0.heap.size (fun _ => True) (.slice (some ⟨g2, 0, none⟩) us.length cap) us
  be : Below w0.heap.size w0 W
section
variable {w0 W W1 : World} {g g2 cap : Nat} {ln : Int} {us : List Int}
theorem Now.below (h : Now w0 W g g2 cap ln us) (hb : Below W.heap.size W W1) : Now w0 W1 g g2 cap ln us := ⟨blk_below h.box hb, Kd.R_below h.row hb, below_step h.be hb⟩
theorem Now.of_adv {w : World} {l : List S55} (h : Adv w0 w W (fun _ => True) g g2 cap us.length (stepL l ln us)) : Now w0 W g g2 cap (stepL l ln us).1 (stepL l ln us).2.1 := by
  have e := stepL_len l ln us
  refine ⟨?_, ?_, h.be⟩
  · rw [e]; exact h.box
  · rw [e]; exact h.row
theorem Now.grown {row : Option Nat} (h : Now w0 W g g2 cap ln us) (hb : Below w0.heap.size w0 W1) (hg : W.grownBy W1 row) (h1 : some g ≠ row) (h2 : some g2 ≠ row) : Now w0 W1 g g2 cap ln us := ⟨blk_grown h.box hg h1, Kd.R_grown1 h.row rfl hg (fun e => h2 (by rw [e]; rfl)), hb⟩
end
/-- A run of the reference: a box with the states and the zeros, each a row of the call's own. -/
structure Run (w0 W : World) (g gs cs gz cz : Nat) (S : List S31) (Z : List Int) (b : Bool) : Prop where
  box : W.heap[g]? = some (.cells #[.slice (some ⟨gs, 0, none⟩) S.length cs, .slice (some ⟨gz, 0, none⟩) Z.length cz, .bool b] 70 (0, 0))
  st : Kd.R k31 31 W w0.heap.size (fun k => True ∧ some k ≠ (Value.slice (some ⟨gz, 0, none⟩) Z.length cz).ownBlock) (.slice (some ⟨gs, 0, none⟩) S.length cs) S
  ze : Kd.R (Kd.int .i64) 3 W w0.heap.size (fun _ => True) (.slice (some ⟨gz, 0, none⟩) Z.length cz) Z
  be : Below w0.heap.size w0 W
  ge : w0.heap.size ≤ g
section
variable {w0 W W1 : World} {g gs cs gz cz : Nat} {S : List S31} {Z : List Int} {b : Bool}
theorem Run.below (h : Run w0 W g gs cs gz cz S Z b) (hb : Below W.heap.size W W1) : Run w0 W1 g gs cs gz cz S Z b := ⟨blk_below h.box hb, Kd.R_below h.st hb, Kd.R_below h.ze hb, below_step h.be hb, h.ge⟩
theorem Run.fail (h : Run w0 W g gs cs gz cz S Z b) (b' : Bool) : Run w0 (W.setCell ⟨g, 2, none⟩ (.bool b')) g gs cs gz cz S Z b' :=
  ⟨blk_put (cs := #[.slice (some ⟨gs, 0, none⟩) S.length cs, .slice (some ⟨gz, 0, none⟩) Z.length cz, .bool b]) h.box 2 _ rfl, Kd.R_set h.st h.box (by decide) 2 _, Kd.R_set h.ze h.box (by decide) 2 _, below_set h.be h.ge, h.ge⟩
end
theorem infoB : (Try.prog.info? 4).map (fun i => (i.zero, i.size, i.bytes)) = some (some (.bool false), 1, 1) := by kernel_rfl
theorem infoCt : (Try.prog.info? 31).map (fun i => (i.zero, i.size, i.bytes)) = some (some (.agg #[.int .i64 0, .slice none 0 0]), 2, 32) := by kernel_rfl
end Go.Proofs.Ytbcphkblieeemaa.P
