/- Words of my own for a search that grows two rows: states (numbers) and words (a row of rows, no two of which share memory). -/
import Derived.Test.YtkfedkckakegjaaOwnW
namespace Go.Proofs.Ytkfedkckakegjaa.Own
open Go.RowKit Go.Proofs.YtkfedkckakegjaaW.PrintWords Go.Proofs.YtkfedkckakegjaaW.PrintLast Go.Proofs.YtkfedkckakegjaaW.PrintMore
set_option linter.unusedVariables false
variable {w W W1 : World} {gb : Nat} {cs : Array Value} {v4 v5 vl v1 : Value} {S S1 : List Int} {X X1 : List (List Int)} {ys ys1 : List Int}

/-- States and words as they lie in memory, beside one block (a parameter's box). -/
structure Bfs (w W : World) (gb : Nat) (cs : Array Value) (v4 v5 : Value) (S : List Int) (X : List (List Int)) : Prop where
  st : Kd.R (Kd.int .i64) 3 W w.heap.size (fun _ => True) v4 S
  wo : Kd.S (Kd.slice 3 (Kd.int .i64)) 23 W w.heap.size (fun k => some k ≠ v4.ownBlock) v5 X
  bk : W.heap[gb]? = some (.cells cs 29 (0, 0))
  be : Below w.heap.size w W
/-- .. and a row in the making. -/
structure Bfs2 (w W : World) (gb : Nat) (cs : Array Value) (v4 v5 vl : Value) (S : List Int) (X : List (List Int)) (ys : List Int) : Prop where
  st : Kd.R (Kd.int .i64) 3 W w.heap.size (fun _ => True) v4 S
  wo : Kd.S (Kd.slice 3 (Kd.int .i64)) 23 W w.heap.size (fun k => some k ≠ v4.ownBlock ∧ some k ≠ vl.ownBlock) v5 X
  li : Kd.R (Kd.int .i64) 3 W w.heap.size (fun k => some k ≠ v4.ownBlock) vl ys
  bk : W.heap[gb]? = some (.cells cs 29 (0, 0))
  be : Below w.heap.size w W
theorem Bfs.below (h : Bfs w W gb cs v4 v5 S X) (hb : Below W.heap.size W W1) : Bfs w W1 gb cs v4 v5 S X := ⟨Kd.R_below h.st hb, Kd.S_below h.wo hb, blk_below h.bk hb, below_step h.be hb⟩
theorem Bfs2.below (h : Bfs2 w W gb cs v4 v5 vl S X ys) (hb : Below W.heap.size W W1) : Bfs2 w W1 gb cs v4 v5 vl S X ys := ⟨Kd.R_below h.st hb, Kd.S_below h.wo hb, Kd.R_below h.li hb, blk_below h.bk hb, below_step h.be hb⟩
/-- A state was appended. -/
theorem Bfs.push (h : Bfs w W gb cs v4 v5 S X) (ho : Kd.R (Kd.int .i64) 3 W1 w.heap.size (fun _ => True) v1 S1) (hb : Below w.heap.size w W1) (hg : W.grownBy W1 v4.ownBlock) (hat : v1.ownBlock = v4.ownBlock ∨ ∃ b, v1.ownBlock = some b ∧ W.heap.size ≤ b) : Bfs w W1 gb cs v1 v5 S1 X :=
  ⟨ho, Kd.S_mono (Kd.S_after (ok := fun _ => True) (Kd.S_mono h.wo (fun _ hk => ⟨trivial, hk⟩)) hg hat) (fun _ hk => hk.2), blk_grown h.bk hg (Kd.R_ne h.st h.bk (by decide)), hb⟩
/-- An empty row was made. -/
theorem Bfs.lit (h : Bfs w W gb cs v4 v5 S X) (ho : Kd.R (Kd.int .i64) 3 W1 W.heap.size (fun _ => True) vl ys) (hb : Below W.heap.size W W1) : Bfs2 w W1 gb cs v4 v5 vl S X ys :=
  ⟨Kd.R_below h.st hb, Kd.S_elder' h.wo (Kd.R_base ho) hb, Kd.R_mono (Kd.R_lower (Kd.R_new' ho (Kd.R_lt h.st)) h.be.size) (fun _ hk => hk.2), blk_below h.bk hb, below_step h.be hb⟩
/-- It grew. -/
theorem Bfs2.grow (h : Bfs2 w W gb cs v4 v5 vl S X ys) (ho : Kd.R (Kd.int .i64) 3 W1 w.heap.size (fun k => some k ≠ v4.ownBlock) v1 ys1) (hb : Below w.heap.size w W1) (hg : W.grownBy W1 vl.ownBlock) (hat : v1.ownBlock = vl.ownBlock ∨ ∃ b, v1.ownBlock = some b ∧ W.heap.size ≤ b) : Bfs2 w W1 gb cs v4 v5 v1 S X ys1 :=
  ⟨Kd.R_mono (Kd.R_after (ok := fun _ => True) (Kd.R_mono (Kd.R_tight rfl h.st) (fun k hk => ⟨trivial, fun e => h.li.1 k e.symm hk⟩)) hg hat) (fun _ _ => trivial),
    Kd.S_after (ok := fun k => some k ≠ v4.ownBlock) h.wo hg hat, ho, blk_grown h.bk hg (Kd.R_ne h.li h.bk (by decide)), hb⟩
theorem Bfs2.fresh (h : Bfs2 w W gb cs v4 v5 vl S X ys) : ∀ k, W.heap.size ≤ k → some k ≠ v4.ownBlock := fun k hk e => by have := Kd.R_lt h.st k e.symm; omega
/-- What the row's own block is to the words: none of them. -/
theorem Bfs2.okp (h : Bfs2 w W gb cs v4 v5 vl S X ys) : ∀ k, some k = vl.ownBlock → some k ≠ v4.ownBlock ∧ some k ≠ v5.ownBlock := fun k hk => by
  obtain ⟨c, hc⟩ := Kd.R_typed h.li k hk.symm
  exact ⟨h.li.1 k hk.symm, Kd.S_ne h.wo hc (by decide)⟩
theorem Bfs2.mem (h : Bfs2 w W gb cs v4 v5 vl S X ys) : (Kd.slice 3 (Kd.int .i64)).M W w.heap.size (fun k => some k = vl.ownBlock) ys [vl] := ⟨vl, rfl, Kd.R_tight rfl h.li⟩
/-- It was appended to the words. -/
theorem Bfs2.done (h : Bfs2 w W gb cs v4 v5 vl S X ys) (ho : Kd.S (Kd.slice 3 (Kd.int .i64)) 23 W1 w.heap.size (fun k => some k ≠ v4.ownBlock) v1 X1) (hb : Below w.heap.size w W1) (hg : W.grownBy W1 v5.ownBlock) : Bfs w W1 gb cs v4 v1 S X1 :=
  ⟨Kd.R_over' h.st (Kd.S_typed h.wo) (by decide) hg, ho, blk_grown h.bk hg (Kd.S_ne h.wo h.bk (by decide)), hb⟩
/-- The first word, which is empty, of its own. -/
theorem first_rep (ho : Kd.R (Kd.int .i64) 3 W w.heap.size (fun k => some k ≠ v4.ownBlock) vl []) : ∀ j (x : List Int), ([[]] : List (List Int))[j]? = some x → (Kd.slice 3 (Kd.int .i64)).M W w.heap.size ((fun (j k : Nat) => j = 0 ∧ some k = vl.ownBlock) j) x (([vl].drop (j * (Kd.slice 3 (Kd.int .i64)).sz)).take (Kd.slice 3 (Kd.int .i64)).sz) := by
  intro j x hj
  obtain rfl : j = 0 := by
    have := (List.getElem?_eq_some_iff.1 hj).1
    simpa using this
  obtain rfl : [] = x := by simpa using hj
  exact ⟨vl, rfl, Kd.R_mono (Kd.R_tight rfl ho) (fun k hk => ⟨rfl, hk⟩)⟩
end Go.Proofs.Ytkfedkckakegjaa.Own
