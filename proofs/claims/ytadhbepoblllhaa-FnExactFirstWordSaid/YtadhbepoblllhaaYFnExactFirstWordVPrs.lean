/- Words of my own for the program's search over pairs: the pairs (a row of [2]int), the words (a row of rows), the set of the pairs that were met (a map), beside two blocks (the parameters' boxes). -/
import Derived.Test.YtadhbepoblllhaaYFnExactFirstWordVPSet
import Derived.Test.YtadhbepoblllhaaProg
namespace Go.Proofs.Ytadhbepoblllhaa.Own
open Go.RowKit Go.Proofs.YtadhbepoblllhaaW.PrintWords Go.Proofs.YtadhbepoblllhaaW.PrintLast Go.Proofs.YtadhbepoblllhaaW.PrintMore
set_option linter.unusedVariables false
abbrev kPr : Kd (Int × Int) := Kd.pair (Kd.int .i64) (Kd.int .i64)
theorem kPr_M (w : World) (base : Nat) (ok : Nat → Prop) (p : Int × Int) : kPr.M w base ok p [.int .i64 p.1, .int .i64 p.2] := ⟨[.int .i64 p.1], [.int .i64 p.2], rfl, rfl, rfl⟩
theorem kPr_K {w : World} {p : Int × Int} {cs : List Value} (h : kPr.K w p cs) : cs = [.int .i64 p.1, .int .i64 p.2] := by
  obtain ⟨c0, c1, rfl, h0, h1⟩ := h
  replace h0 : c0 = [.int .i64 p.1] := h0
  replace h1 : c1 = [.int .i64 p.2] := h1
  subst h0; subst h1; rfl
structure Fst (w W : World) (c0 c1 : Array Value) (g12 : Nat) (v10 v11 : Value) (S M : List (Int × Int)) (X : List (List Int)) : Prop where
  pr : Kd.R kPr 59 W w.heap.size (fun _ => True) v10 S
  wo : Kd.R (Kd.slice 3 (Kd.int .i64)) 23 W w.heap.size (fun _ => True) v11 X
  ma : PSet Try.prog 59 4 W g12 M.length M
  lo : w.heap.size ≤ g12
  b0 : W.heap[w.heap.size]? = some (.cells c0 29 (0, 0))
  b1 : W.heap[w.heap.size + 1]? = some (.cells c1 29 (0, 0))
  be : Below w.heap.size w W
/-- .. and a row in the making. -/
structure Fst2 (w W : World) (c0 c1 : Array Value) (g12 : Nat) (v10 v11 vl : Value) (S M : List (Int × Int)) (X : List (List Int)) (ys : List Int) : Prop where
  pr : Kd.R kPr 59 W w.heap.size (fun _ => True) v10 S
  wo : Kd.R (Kd.slice 3 (Kd.int .i64)) 23 W w.heap.size (fun k => True ∧ some k ≠ vl.ownBlock) v11 X
  li : Kd.R (Kd.int .i64) 3 W w.heap.size (fun _ => True) vl ys
  ma : PSet Try.prog 59 4 W g12 M.length M
  lo : w.heap.size ≤ g12
  b0 : W.heap[w.heap.size]? = some (.cells c0 29 (0, 0))
  b1 : W.heap[w.heap.size + 1]? = some (.cells c1 29 (0, 0))
  be : Below w.heap.size w W
/-- Rows stay where a map is written. -/
theorem row_map {α : Type} {d : Kd α} {q base g n : Nat} {ok : Nat → Prop} {W W1 : World} {v : Value} {xs : List α} {P : Program} {k e : TypeId} {M : List (Int × Int)} (h : d.R q W base ok v xs) (hm : PSet P k e W g n M) (hg : W.grownBy W1 (some g)) : d.R q W1 base ok v xs := by
  obtain ⟨es, clock, hb⟩ := hm.is_map
  refine Kd.R_mono (Kd.R_move (Kd.R_bound h) (fun i hi => ?_)) (fun _ hk => hk.1)
  obtain ⟨_, _, hlt, q, _, cells, hc⟩ := hi
  refine hg.block i hlt (fun e_ => ?_)
  injection e_ with e_
  subst e_
  rw [hb] at hc
  cases hc
theorem blk_map {g n b t : Nat} {W W1 : World} {cs : Array Value} {P : Program} {k e : TypeId} {M : List (Int × Int)} (h : W.heap[b]? = some (.cells cs t (0, 0))) (hm : PSet P k e W g n M) (hg : W.grownBy W1 (some g)) : W1.heap[b]? = some (.cells cs t (0, 0)) := by
  obtain ⟨es, clock, hb⟩ := hm.is_map
  refine (hg.block b (blk_lt h) (fun e_ => ?_)).trans h
  injection e_ with e_
  subst e_
  rw [hb] at h
  cases h
variable {w W W1 : World} {c0 c1 : Array Value} {g12 : Nat} {v10 v11 vl v1 : Value} {S S1 M M1 : List (Int × Int)} {X X1 : List (List Int)} {ys ys1 : List Int}
theorem Fst.below (h : Fst w W c0 c1 g12 v10 v11 S M X) (hb : Below W.heap.size W W1) : Fst w W1 c0 c1 g12 v10 v11 S M X := ⟨Kd.R_below h.pr hb, Kd.R_below h.wo hb, h.ma.below hb, h.lo, blk_below h.b0 hb, blk_below h.b1 hb, below_step h.be hb⟩
theorem Fst2.below (h : Fst2 w W c0 c1 g12 v10 v11 vl S M X ys) (hb : Below W.heap.size W W1) : Fst2 w W1 c0 c1 g12 v10 v11 vl S M X ys := ⟨Kd.R_below h.pr hb, Kd.R_below h.wo hb, Kd.R_below h.li hb, h.ma.below hb, h.lo, blk_below h.b0 hb, blk_below h.b1 hb, below_step h.be hb⟩
/-- The set took a pair. -/
theorem Fst.met (h : Fst w W c0 c1 g12 v10 v11 S M X) {p : Int × Int} (hm : PSet Try.prog 59 4 W1 g12 (M.length + 1) (M ++ [p])) (hg : W.grownBy W1 (some g12)) : Fst w W1 c0 c1 g12 v10 v11 S (M ++ [p]) X :=
  ⟨row_map h.pr h.ma hg, row_map h.wo h.ma hg, by rw [List.length_append]; exact hm, h.lo, blk_map h.b0 h.ma hg, blk_map h.b1 h.ma hg, pw_below_grown h.be (some g12) h.be.size hg (fun k hk => by injection hk with hk; subst hk; exact h.lo)⟩
/-- A pair was appended. -/
theorem Fst.push (h : Fst w W c0 c1 g12 v10 v11 S M X) (ho : Kd.R kPr 59 W1 w.heap.size (fun _ => True) v1 S1) (hb : Below w.heap.size w W1) (hg : W.grownBy W1 v10.ownBlock) : Fst w W1 c0 c1 g12 v1 v11 S1 M X :=
  ⟨ho, Kd.R_over' h.wo (Kd.R_typed h.pr) (by decide) hg, h.ma.kept hg (h.ma.ne_row h.pr), h.lo, blk_grown h.b0 hg (Kd.R_ne h.pr h.b0 (by decide)), blk_grown h.b1 hg (Kd.R_ne h.pr h.b1 (by decide)), hb⟩
/-- A row of one's own was made. -/
theorem Fst.lit (h : Fst w W c0 c1 g12 v10 v11 S M X) (ho : Kd.R (Kd.int .i64) 3 W1 W.heap.size (fun _ => True) vl ys) (hb : Below W.heap.size W W1) : Fst2 w W1 c0 c1 g12 v10 v11 vl S M X ys :=
  ⟨Kd.R_below h.pr hb, Kd.R_elder' h.wo (Kd.R_base ho) hb, Kd.R_lower ho h.be.size, h.ma.below hb, h.lo, blk_below h.b0 hb, blk_below h.b1 hb, below_step h.be hb⟩
/-- It grew. -/
theorem Fst2.grow (h : Fst2 w W c0 c1 g12 v10 v11 vl S M X ys) (ho : Kd.R (Kd.int .i64) 3 W1 w.heap.size (fun _ => True) v1 ys1) (hb : Below w.heap.size w W1) (hg : W.grownBy W1 vl.ownBlock) (hat : v1.ownBlock = vl.ownBlock ∨ ∃ b, v1.ownBlock = some b ∧ W.heap.size ≤ b) : Fst2 w W1 c0 c1 g12 v10 v11 v1 S M X ys1 :=
  ⟨Kd.R_over' h.pr (Kd.R_typed h.li) (by decide) hg, Kd.R_after (ok := fun _ => True) h.wo hg hat, ho, h.ma.kept hg (h.ma.ne_row h.li), h.lo, blk_grown h.b0 hg (Kd.R_ne h.li h.b0 (by decide)), blk_grown h.b1 hg (Kd.R_ne h.li h.b1 (by decide)), hb⟩
theorem Fst2.okp (h : Fst2 w W c0 c1 g12 v10 v11 vl S M X ys) : ∀ k, some k = vl.ownBlock → True ∧ some k ≠ v11.ownBlock := fun k hk => by
  obtain ⟨c, hc⟩ := Kd.R_typed h.li k hk.symm
  exact ⟨trivial, Kd.R_ne h.wo hc (by decide)⟩
theorem Fst2.mem (h : Fst2 w W c0 c1 g12 v10 v11 vl S M X ys) : (Kd.slice 3 (Kd.int .i64)).M W w.heap.size (fun k => some k = vl.ownBlock) ys [vl] := ⟨vl, rfl, Kd.R_tight rfl h.li⟩
theorem Fst2.words (h : Fst2 w W c0 c1 g12 v10 v11 vl S M X ys) : Kd.R (Kd.slice 3 (Kd.int .i64)) 23 W w.heap.size (fun _ => True) v11 X := Kd.R_mono h.wo (fun _ _ => trivial)
/-- It was appended to the words. -/
theorem Fst2.done (h : Fst2 w W c0 c1 g12 v10 v11 vl S M X ys) (ho : Kd.R (Kd.slice 3 (Kd.int .i64)) 23 W1 w.heap.size (fun _ => True) v1 X1) (hb : Below w.heap.size w W1) (hg : W.grownBy W1 v11.ownBlock) : Fst w W1 c0 c1 g12 v10 v1 S M X1 :=
  ⟨Kd.R_over' h.pr (Kd.R_typed h.wo) (by decide) hg, ho, h.ma.kept hg (h.ma.ne_row h.wo), h.lo, blk_grown h.b0 hg (Kd.R_ne h.wo h.b0 (by decide)), blk_grown h.b1 hg (Kd.R_ne h.wo h.b1 (by decide)), hb⟩
end Go.Proofs.Ytadhbepoblllhaa.Own
