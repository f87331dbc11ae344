/- Words of my own for the search over pairs: two rows of rows (pairs and words) and a row of marks, beside two blocks (the parameters' boxes). -/
import Derived.Test.YtadhbepoblllhaaZFnExactEqualStates0
namespace Go.Proofs.Ytadhbepoblllhaa.Own
open Go.RowKit Go.Proofs.YtadhbepoblllhaaW.PrintWords Go.Proofs.YtadhbepoblllhaaW.PrintLast Go.Proofs.YtadhbepoblllhaaW.PrintMore
set_option linter.unusedVariables false
structure Prs (w W : World) (c0 c1 : Array Value) (v10 v11 v12 : Value) (P X : List (List Int)) (M : List Bool) : Prop where
  pr : Kd.R (Kd.slice 3 (Kd.int .i64)) 23 W w.heap.size (fun k => some k ≠ v11.ownBlock) v10 P
  wo : Kd.R (Kd.slice 3 (Kd.int .i64)) 23 W w.heap.size (fun k => some k ≠ v10.ownBlock) v11 X
  me : Kd.R Kd.bool 4 W w.heap.size (fun _ => True) v12 M
  b0 : W.heap[w.heap.size]? = some (.cells c0 29 (0, 0))
  b1 : W.heap[w.heap.size + 1]? = some (.cells c1 29 (0, 0))
  be : Below w.heap.size w W
/-- .. and a row in the making. -/
structure Prs2 (w W : World) (c0 c1 : Array Value) (v10 v11 v12 vl : Value) (P X : List (List Int)) (M : List Bool) (ys : List Int) : Prop where
  pr : Kd.R (Kd.slice 3 (Kd.int .i64)) 23 W w.heap.size (fun k => some k ≠ v11.ownBlock ∧ some k ≠ vl.ownBlock) v10 P
  wo : Kd.R (Kd.slice 3 (Kd.int .i64)) 23 W w.heap.size (fun k => some k ≠ v10.ownBlock ∧ some k ≠ vl.ownBlock) v11 X
  me : Kd.R Kd.bool 4 W w.heap.size (fun _ => True) v12 M
  li : Kd.R (Kd.int .i64) 3 W w.heap.size (fun _ => True) vl ys
  b0 : W.heap[w.heap.size]? = some (.cells c0 29 (0, 0))
  b1 : W.heap[w.heap.size + 1]? = some (.cells c1 29 (0, 0))
  be : Below w.heap.size w W
variable {w W W1 : World} {c0 c1 : Array Value} {v10 v11 v12 vl v1 : Value} {P P1 X X1 : List (List Int)} {M : List Bool} {ys ys1 : List Int}
theorem Prs.below (h : Prs w W c0 c1 v10 v11 v12 P X M) (hb : Below W.heap.size W W1) : Prs w W1 c0 c1 v10 v11 v12 P X M := ⟨Kd.R_below h.pr hb, Kd.R_below h.wo hb, Kd.R_below h.me hb, blk_below h.b0 hb, blk_below h.b1 hb, below_step h.be hb⟩
theorem Prs2.below (h : Prs2 w W c0 c1 v10 v11 v12 vl P X M ys) (hb : Below W.heap.size W W1) : Prs2 w W1 c0 c1 v10 v11 v12 vl P X M ys := ⟨Kd.R_below h.pr hb, Kd.R_below h.wo hb, Kd.R_below h.me hb, Kd.R_below h.li hb, blk_below h.b0 hb, blk_below h.b1 hb, below_step h.be hb⟩
/-- A row of one's own was made. -/
theorem Prs.lit (h : Prs w W c0 c1 v10 v11 v12 P X M) (ho : Kd.R (Kd.int .i64) 3 W1 W.heap.size (fun _ => True) vl ys) (hb : Below W.heap.size W W1) : Prs2 w W1 c0 c1 v10 v11 v12 vl P X M ys :=
  ⟨Kd.R_elder' h.pr (Kd.R_base ho) hb, Kd.R_elder' h.wo (Kd.R_base ho) hb, Kd.R_below h.me hb, Kd.R_lower ho h.be.size, blk_below h.b0 hb, blk_below h.b1 hb, below_step h.be hb⟩
/-- It grew. -/
theorem Prs2.grow (h : Prs2 w W c0 c1 v10 v11 v12 vl P X M ys) (ho : Kd.R (Kd.int .i64) 3 W1 w.heap.size (fun _ => True) v1 ys1) (hb : Below w.heap.size w W1) (hg : W.grownBy W1 vl.ownBlock) (hat : v1.ownBlock = vl.ownBlock ∨ ∃ b, v1.ownBlock = some b ∧ W.heap.size ≤ b) : Prs2 w W1 c0 c1 v10 v11 v12 v1 P X M ys1 :=
  ⟨Kd.R_after (ok := fun k => some k ≠ v11.ownBlock) h.pr hg hat, Kd.R_after (ok := fun k => some k ≠ v10.ownBlock) h.wo hg hat, Kd.R_over' h.me (Kd.R_typed h.li) (by decide) hg, ho,
    blk_grown h.b0 hg (Kd.R_ne h.li h.b0 (by decide)), blk_grown h.b1 hg (Kd.R_ne h.li h.b1 (by decide)), hb⟩
/-- It was appended to the pairs .. -/
theorem Prs2.donePr (h : Prs2 w W c0 c1 v10 v11 v12 vl P X M ys) (ho : Kd.R (Kd.slice 3 (Kd.int .i64)) 23 W1 w.heap.size (fun k => some k ≠ v11.ownBlock) v1 P1) (hb : Below w.heap.size w W1) (hg : W.grownBy W1 v10.ownBlock) (hat : v1.ownBlock = v10.ownBlock ∨ ∃ b, v1.ownBlock = some b ∧ W.heap.size ≤ b) : Prs w W1 c0 c1 v1 v11 v12 P1 X M :=
  ⟨ho, Kd.R_mono (Kd.R_after (ok := fun _ => True) (Kd.R_mono h.wo (fun _ hk => ⟨trivial, hk.1⟩)) hg hat) (fun _ hk => hk.2), Kd.R_over' h.me (Kd.R_typed h.pr) (by decide) hg,
    blk_grown h.b0 hg (Kd.R_ne h.pr h.b0 (by decide)), blk_grown h.b1 hg (Kd.R_ne h.pr h.b1 (by decide)), hb⟩
/-- .. or to the words. -/
theorem Prs2.doneWo (h : Prs2 w W c0 c1 v10 v11 v12 vl P X M ys) (ho : Kd.R (Kd.slice 3 (Kd.int .i64)) 23 W1 w.heap.size (fun k => some k ≠ v10.ownBlock) v1 X1) (hb : Below w.heap.size w W1) (hg : W.grownBy W1 v11.ownBlock) (hat : v1.ownBlock = v11.ownBlock ∨ ∃ b, v1.ownBlock = some b ∧ W.heap.size ≤ b) : Prs w W1 c0 c1 v10 v1 v12 P X1 M :=
  ⟨Kd.R_mono (Kd.R_after (ok := fun _ => True) (Kd.R_mono h.pr (fun _ hk => ⟨trivial, hk.1⟩)) hg hat) (fun _ hk => hk.2), ho, Kd.R_over' h.me (Kd.R_typed h.wo) (by decide) hg,
    blk_grown h.b0 hg (Kd.R_ne h.wo h.b0 (by decide)), blk_grown h.b1 hg (Kd.R_ne h.wo h.b1 (by decide)), hb⟩
theorem Prs2.freshPr (h : Prs2 w W c0 c1 v10 v11 v12 vl P X M ys) : ∀ k, W.heap.size ≤ k → some k ≠ v11.ownBlock := fun k hk e => by have := Kd.R_lt h.wo k e.symm; omega
theorem Prs2.freshWo (h : Prs2 w W c0 c1 v10 v11 v12 vl P X M ys) : ∀ k, W.heap.size ≤ k → some k ≠ v10.ownBlock := fun k hk e => by have := Kd.R_lt h.pr k e.symm; omega
theorem Prs2.okPr (h : Prs2 w W c0 c1 v10 v11 v12 vl P X M ys) : ∀ k, some k = vl.ownBlock → some k ≠ v11.ownBlock ∧ some k ≠ v10.ownBlock := fun k hk => by
  obtain ⟨c, hc⟩ := Kd.R_typed h.li k hk.symm
  exact ⟨Kd.R_ne h.wo hc (by decide), Kd.R_ne h.pr hc (by decide)⟩
theorem Prs2.okWo (h : Prs2 w W c0 c1 v10 v11 v12 vl P X M ys) : ∀ k, some k = vl.ownBlock → some k ≠ v10.ownBlock ∧ some k ≠ v11.ownBlock := fun k hk => ⟨(h.okPr k hk).2, (h.okPr k hk).1⟩
theorem Prs2.mem (h : Prs2 w W c0 c1 v10 v11 v12 vl P X M ys) : (Kd.slice 3 (Kd.int .i64)).M W w.heap.size (fun k => some k = vl.ownBlock) ys [vl] := ⟨vl, rfl, Kd.R_tight rfl h.li⟩
/-- A mark was set. -/
theorem Prs.put {g n cap m : Nat} (h : Prs w W c0 c1 v10 v11 (.slice (some ⟨g, 0, none⟩) n cap) P X M) (b : Bool) : Prs w (W.setCell ⟨g, m, none⟩ (.bool b)) c0 c1 v10 v11 (.slice (some ⟨g, 0, none⟩) n cap) P X (M.set m b) := by
  have hp := Kd.R_putg h.me (m : Int) b
  rw [Int.toNat_natCast] at hp
  have hg : W.grownBy (W.setCell ⟨g, m, none⟩ (.bool b)) (Value.slice (some ⟨g, 0, none⟩) n cap).ownBlock := hp.2
  exact ⟨Kd.R_over' h.pr (Kd.R_typed h.me) (by decide) hg, Kd.R_over' h.wo (Kd.R_typed h.me) (by decide) hg, hp.1, blk_grown h.b0 hg (Kd.R_ne h.me h.b0 (by decide)), blk_grown h.b1 hg (Kd.R_ne h.me h.b1 (by decide)), below_set h.be (Kd.R_base h.me g rfl)⟩
end Go.Proofs.Ytadhbepoblllhaa.Own
