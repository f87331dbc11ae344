/- Words of my own for three rows of rows that one walk keeps apart: what is put out (v6), what is read (v7), what is made next (v9), and a row in the making (vl). -/
import Derived.Test.YtkfedkckakegjaaOwnW
namespace Go.Proofs.Ytkfedkckakegjaa.Own
open Go.RowKit Go.Proofs.YtkfedkckakegjaaW.PrintWords Go.Proofs.YtkfedkckakegjaaW.PrintLast Go.Proofs.YtkfedkckakegjaaW.PrintMore
set_option linter.unusedVariables false
variable {w W W1 : World} {gb : Nat} {cs : Array Value} {v6 v7 v9 vl v1 : Value} {O X Y O1 Y1 : List (List Int)} {ys ys1 : List Int}
theorem Below.of_grown {row : Option Nat} (hg : W.grownBy W1 row) (h : row = none) : Below W.heap.size W W1 := ⟨hg.os, hg.tape, hg.output, hg.size, fun k hk => hg.block k hk (by rw [h]; simp)⟩
/-- What is put out and what is read. -/
structure AccM (w W : World) (gb : Nat) (cs : Array Value) (v6 v7 : Value) (O X : List (List Int)) : Prop where
  o : Kd.S (Kd.slice 3 (Kd.int .i64)) 23 W w.heap.size (fun k => some k ≠ v7.ownBlock) v6 O
  x : Kd.S (Kd.slice 3 (Kd.int .i64)) 23 W w.heap.size (fun k => some k ≠ v6.ownBlock) v7 X
  bk : W.heap[gb]? = some (.cells cs 29 (0, 0))
  be : Below w.heap.size w W
/-- .. and what is made next. -/
structure Acc (w W : World) (gb : Nat) (cs : Array Value) (v6 v7 v9 : Value) (O X Y : List (List Int)) : Prop where
  o : Kd.S (Kd.slice 3 (Kd.int .i64)) 23 W w.heap.size (fun k => some k ≠ v7.ownBlock ∧ some k ≠ v9.ownBlock) v6 O
  x : Kd.S (Kd.slice 3 (Kd.int .i64)) 23 W w.heap.size (fun k => some k ≠ v6.ownBlock ∧ some k ≠ v9.ownBlock) v7 X
  y : Kd.S (Kd.slice 3 (Kd.int .i64)) 23 W w.heap.size (fun k => some k ≠ v7.ownBlock ∧ some k ≠ v6.ownBlock) v9 Y
  bk : W.heap[gb]? = some (.cells cs 29 (0, 0))
  be : Below w.heap.size w W
/-- .. and a row in the making. -/
structure Acc2 (w W : World) (gb : Nat) (cs : Array Value) (v6 v7 v9 vl : Value) (O X Y : List (List Int)) (ys : List Int) : Prop where
  o : Kd.S (Kd.slice 3 (Kd.int .i64)) 23 W w.heap.size (fun k => (some k ≠ v7.ownBlock ∧ some k ≠ v9.ownBlock) ∧ some k ≠ vl.ownBlock) v6 O
  x : Kd.S (Kd.slice 3 (Kd.int .i64)) 23 W w.heap.size (fun k => (some k ≠ v6.ownBlock ∧ some k ≠ v9.ownBlock) ∧ some k ≠ vl.ownBlock) v7 X
  y : Kd.S (Kd.slice 3 (Kd.int .i64)) 23 W w.heap.size (fun k => (some k ≠ v7.ownBlock ∧ some k ≠ v6.ownBlock) ∧ some k ≠ vl.ownBlock) v9 Y
  li : Kd.R (Kd.int .i64) 3 W w.heap.size (fun _ => True) vl ys
  bk : W.heap[gb]? = some (.cells cs 29 (0, 0))
  be : Below w.heap.size w W
theorem AccM.below (h : AccM w W gb cs v6 v7 O X) (hb : Below W.heap.size W W1) : AccM w W1 gb cs v6 v7 O X := ⟨Kd.S_below h.o hb, Kd.S_below h.x hb, blk_below h.bk hb, below_step h.be hb⟩
theorem Acc.below (h : Acc w W gb cs v6 v7 v9 O X Y) (hb : Below W.heap.size W W1) : Acc w W1 gb cs v6 v7 v9 O X Y := ⟨Kd.S_below h.o hb, Kd.S_below h.x hb, Kd.S_below h.y hb, blk_below h.bk hb, below_step h.be hb⟩
theorem Acc2.below (h : Acc2 w W gb cs v6 v7 v9 vl O X Y ys) (hb : Below W.heap.size W W1) : Acc2 w W1 gb cs v6 v7 v9 vl O X Y ys := ⟨Kd.S_below h.o hb, Kd.S_below h.x hb, Kd.S_below h.y hb, Kd.R_below h.li hb, blk_below h.bk hb, below_step h.be hb⟩
/-- Nothing is made yet: nil. -/
theorem AccM.nil (h : AccM w W gb cs v6 v7 O X) : Acc w W gb cs v6 v7 (.slice none 0 0) O X [] := ⟨Kd.S_mono h.o (fun k hk => ⟨hk, by simp [Value.ownBlock]⟩), Kd.S_mono h.x (fun k hk => ⟨hk, by simp [Value.ownBlock]⟩), Kd.S_nil _ _ _ _ _, h.bk, h.be⟩
/-- .. or a new row without elements. -/
theorem AccM.fresh (h : AccM w W gb cs v6 v7 O X) : some W.heap.size ≠ v7.ownBlock ∧ some W.heap.size ≠ v6.ownBlock := ⟨fun e => by have := Kd.S_lt h.x _ e.symm; omega, fun e => by have := Kd.S_lt h.o _ e.symm; omega⟩
theorem AccM.make (h : AccM w W gb cs v6 v7 O X) (ho : Kd.S (Kd.slice 3 (Kd.int .i64)) 23 W1 w.heap.size (fun k => some k ≠ v7.ownBlock ∧ some k ≠ v6.ownBlock) v9 []) (hb : Below w.heap.size w W1) (hg : W.grownBy W1 none) (hnew : ∃ b, v9.ownBlock = some b ∧ W.heap.size ≤ b) : Acc w W1 gb cs v6 v7 v9 O X [] := by
  have hB := Below.of_grown hg rfl
  have hn : ∀ k, v9.ownBlock = some k → W.heap.size ≤ k := fun k hk => by
    obtain ⟨b, e, h2⟩ := hnew
    rw [e] at hk
    obtain rfl := Option.some.inj hk
    exact h2
  exact ⟨Kd.S_elder' h.o hn hB, Kd.S_elder' h.x hn hB, ho, blk_below h.bk hB, hb⟩
/-- What was made is what is read next. -/
theorem Acc.turn (h : Acc w W gb cs v6 v7 v9 O X Y) : AccM w W gb cs v6 v9 O Y := ⟨Kd.S_mono h.o (fun _ hk => hk.2), Kd.S_mono h.y (fun _ hk => hk.2), h.bk, h.be⟩
/-- A row was begun. -/
theorem Acc.lit (h : Acc w W gb cs v6 v7 v9 O X Y) (ho : Kd.R (Kd.int .i64) 3 W1 W.heap.size (fun _ => True) vl ys) (hb : Below W.heap.size W W1) : Acc2 w W1 gb cs v6 v7 v9 vl O X Y ys :=
  ⟨Kd.S_elder' h.o (Kd.R_base ho) hb, Kd.S_elder' h.x (Kd.R_base ho) hb, Kd.S_elder' h.y (Kd.R_base ho) hb, Kd.R_lower ho h.be.size, blk_below h.bk hb, below_step h.be hb⟩
/-- It grew. -/
theorem Acc2.grow (h : Acc2 w W gb cs v6 v7 v9 vl O X Y ys) (ho : Kd.R (Kd.int .i64) 3 W1 w.heap.size (fun _ => True) v1 ys1) (hb : Below w.heap.size w W1) (hg : W.grownBy W1 vl.ownBlock) (hat : v1.ownBlock = vl.ownBlock ∨ ∃ b, v1.ownBlock = some b ∧ W.heap.size ≤ b) : Acc2 w W1 gb cs v6 v7 v9 v1 O X Y ys1 :=
  ⟨Kd.S_after (ok := fun k => some k ≠ v7.ownBlock ∧ some k ≠ v9.ownBlock) h.o hg hat, Kd.S_after (ok := fun k => some k ≠ v6.ownBlock ∧ some k ≠ v9.ownBlock) h.x hg hat, Kd.S_after (ok := fun k => some k ≠ v7.ownBlock ∧ some k ≠ v6.ownBlock) h.y hg hat, ho, blk_grown h.bk hg (Kd.R_ne h.li h.bk (by decide)), hb⟩
theorem Acc2.mem (h : Acc2 w W gb cs v6 v7 v9 vl O X Y ys) : (Kd.slice 3 (Kd.int .i64)).M W w.heap.size (fun k => some k = vl.ownBlock) ys [vl] := ⟨vl, rfl, Kd.R_tight rfl h.li⟩
theorem Acc2.far (h : Acc2 w W gb cs v6 v7 v9 vl O X Y ys) : ∀ k, some k = vl.ownBlock → some k ≠ v6.ownBlock ∧ some k ≠ v7.ownBlock ∧ some k ≠ v9.ownBlock := fun k hk => by
  obtain ⟨c, hc⟩ := Kd.R_typed h.li k hk.symm
  exact ⟨Kd.S_ne h.o hc (by decide), Kd.S_ne h.x hc (by decide), Kd.S_ne h.y hc (by decide)⟩
/-! It is appended to what is made next .. -/
theorem Acc2.okY (h : Acc2 w W gb cs v6 v7 v9 vl O X Y ys) : ∀ k, some k = vl.ownBlock → (some k ≠ v7.ownBlock ∧ some k ≠ v6.ownBlock) ∧ some k ≠ v9.ownBlock := fun k hk => ⟨⟨(h.far k hk).2.1, (h.far k hk).1⟩, (h.far k hk).2.2⟩
theorem Acc2.freshY (h : Acc2 w W gb cs v6 v7 v9 vl O X Y ys) : ∀ k, W.heap.size ≤ k → some k ≠ v7.ownBlock ∧ some k ≠ v6.ownBlock := fun k hk => ⟨fun e => by have := Kd.S_lt h.x k e.symm; omega, fun e => by have := Kd.S_lt h.o k e.symm; omega⟩
theorem Acc2.doneY (h : Acc2 w W gb cs v6 v7 v9 vl O X Y ys) (ho : Kd.S (Kd.slice 3 (Kd.int .i64)) 23 W1 w.heap.size (fun k => some k ≠ v7.ownBlock ∧ some k ≠ v6.ownBlock) v1 Y1) (hb : Below w.heap.size w W1) (hg : W.grownBy W1 v9.ownBlock) (hat : v1.ownBlock = v9.ownBlock ∨ ∃ b, v1.ownBlock = some b ∧ W.heap.size ≤ b) : Acc w W1 gb cs v6 v7 v1 O X Y1 :=
  ⟨Kd.S_after (ok := fun k => some k ≠ v7.ownBlock) (Kd.S_drop h.o) hg hat, Kd.S_after (ok := fun k => some k ≠ v6.ownBlock) (Kd.S_drop h.x) hg hat, ho, blk_grown h.bk hg (Kd.S_ne h.y h.bk (by decide)), hb⟩
/-! .. or to what is put out. -/
theorem Acc2.okO (h : Acc2 w W gb cs v6 v7 v9 vl O X Y ys) : ∀ k, some k = vl.ownBlock → (some k ≠ v7.ownBlock ∧ some k ≠ v9.ownBlock) ∧ some k ≠ v6.ownBlock := fun k hk => ⟨⟨(h.far k hk).2.1, (h.far k hk).2.2⟩, (h.far k hk).1⟩
theorem Acc2.freshO (h : Acc2 w W gb cs v6 v7 v9 vl O X Y ys) : ∀ k, W.heap.size ≤ k → some k ≠ v7.ownBlock ∧ some k ≠ v9.ownBlock := fun k hk => ⟨fun e => by have := Kd.S_lt h.x k e.symm; omega, fun e => by have := Kd.S_lt h.y k e.symm; omega⟩
theorem Acc2.doneO (h : Acc2 w W gb cs v6 v7 v9 vl O X Y ys) (ho : Kd.S (Kd.slice 3 (Kd.int .i64)) 23 W1 w.heap.size (fun k => some k ≠ v7.ownBlock ∧ some k ≠ v9.ownBlock) v1 O1) (hb : Below w.heap.size w W1) (hg : W.grownBy W1 v6.ownBlock) (hat : v1.ownBlock = v6.ownBlock ∨ ∃ b, v1.ownBlock = some b ∧ W.heap.size ≤ b) : Acc w W1 gb cs v1 v7 v9 O1 X Y :=
  ⟨ho, Kd.S_mono (Kd.S_after (ok := fun k => some k ≠ v9.ownBlock) (Kd.S_mono h.x (fun _ hk => ⟨hk.1.2, hk.1.1⟩)) hg hat) (fun _ hk => ⟨hk.2, hk.1⟩), Kd.S_after (ok := fun k => some k ≠ v7.ownBlock) (Kd.S_drop h.y) hg hat, blk_grown h.bk hg (Kd.S_ne h.o h.bk (by decide)), hb⟩
/-! .. and the word that is looked at (vw), a row of the row that is read. -/
variable {vw : Value} {wd : List Int}
structure AccW (w W : World) (gb : Nat) (cs : Array Value) (v6 v7 v9 : Value) (O X Y : List (List Int)) (vw : Value) (wd : List Int) : Prop where
  a : Acc w W gb cs v6 v7 v9 O X Y
  cu : Kd.R (Kd.int .i64) 3 W w.heap.size (fun _ => True) vw wd
structure AccW2 (w W : World) (gb : Nat) (cs : Array Value) (v6 v7 v9 vl : Value) (O X Y : List (List Int)) (ys : List Int) (vw : Value) (wd : List Int) : Prop where
  a : Acc2 w W gb cs v6 v7 v9 vl O X Y ys
  cu : Kd.R (Kd.int .i64) 3 W w.heap.size (fun k => True ∧ some k ≠ vl.ownBlock) vw wd
theorem AccW.below (h : AccW w W gb cs v6 v7 v9 O X Y vw wd) (hb : Below W.heap.size W W1) : AccW w W1 gb cs v6 v7 v9 O X Y vw wd := ⟨h.a.below hb, Kd.R_below h.cu hb⟩
theorem AccW2.below (h : AccW2 w W gb cs v6 v7 v9 vl O X Y ys vw wd) (hb : Below W.heap.size W W1) : AccW2 w W1 gb cs v6 v7 v9 vl O X Y ys vw wd := ⟨h.a.below hb, Kd.R_below h.cu hb⟩
theorem AccW.lit (h : AccW w W gb cs v6 v7 v9 O X Y vw wd) (ho : Kd.R (Kd.int .i64) 3 W1 W.heap.size (fun _ => True) vl ys) (hb : Below W.heap.size W W1) : AccW2 w W1 gb cs v6 v7 v9 vl O X Y ys vw wd := ⟨h.a.lit ho hb, Kd.R_elder' h.cu (Kd.R_base ho) hb⟩
theorem AccW2.grow (h : AccW2 w W gb cs v6 v7 v9 vl O X Y ys vw wd) (ho : Kd.R (Kd.int .i64) 3 W1 w.heap.size (fun _ => True) v1 ys1) (hb : Below w.heap.size w W1) (hg : W.grownBy W1 vl.ownBlock) (hat : v1.ownBlock = vl.ownBlock ∨ ∃ b, v1.ownBlock = some b ∧ W.heap.size ≤ b) : AccW2 w W1 gb cs v6 v7 v9 v1 O X Y ys1 vw wd := ⟨h.a.grow ho hb hg hat, Kd.R_after (ok := fun _ => True) h.cu hg hat⟩
theorem AccW2.doneY (h : AccW2 w W gb cs v6 v7 v9 vl O X Y ys vw wd) (ho : Kd.S (Kd.slice 3 (Kd.int .i64)) 23 W1 w.heap.size (fun k => some k ≠ v7.ownBlock ∧ some k ≠ v6.ownBlock) v1 Y1) (hb : Below w.heap.size w W1) (hg : W.grownBy W1 v9.ownBlock) (hat : v1.ownBlock = v9.ownBlock ∨ ∃ b, v1.ownBlock = some b ∧ W.heap.size ≤ b) : AccW w W1 gb cs v6 v7 v1 O X Y1 vw wd :=
  ⟨h.a.doneY ho hb hg hat, Kd.R_over' (Kd.R_mono h.cu (fun _ _ => trivial)) (Kd.S_typed h.a.y) (by decide) hg⟩
theorem AccW2.doneO (h : AccW2 w W gb cs v6 v7 v9 vl O X Y ys vw wd) (ho : Kd.S (Kd.slice 3 (Kd.int .i64)) 23 W1 w.heap.size (fun k => some k ≠ v7.ownBlock ∧ some k ≠ v9.ownBlock) v1 O1) (hb : Below w.heap.size w W1) (hg : W.grownBy W1 v6.ownBlock) (hat : v1.ownBlock = v6.ownBlock ∨ ∃ b, v1.ownBlock = some b ∧ W.heap.size ≤ b) : AccW w W1 gb cs v1 v7 v9 O1 X Y vw wd :=
  ⟨h.a.doneO ho hb hg hat, Kd.R_over' (Kd.R_mono h.cu (fun _ _ => trivial)) (Kd.S_typed h.a.o) (by decide) hg⟩
/-- The first word, which is empty: nil or a row of its own. -/
theorem one_rep {ok : Nat → Prop} (ho : Kd.R (Kd.int .i64) 3 W w.heap.size ok vl []) : ∀ j (x : List Int), ([[]] : List (List Int))[j]? = some x → (Kd.slice 3 (Kd.int .i64)).M W w.heap.size ((fun (j k : Nat) => j = 0 ∧ some k = vl.ownBlock) j) x (([vl].drop (j * (Kd.slice 3 (Kd.int .i64)).sz)).take (Kd.slice 3 (Kd.int .i64)).sz) := by
  intro j x hj
  obtain rfl : j = 0 := by
    have := (List.getElem?_eq_some_iff.1 hj).1
    simpa using this
  obtain rfl : [] = x := by simpa using hj
  exact ⟨vl, rfl, Kd.R_mono (Kd.R_tight rfl ho) (fun k hk => ⟨rfl, hk⟩)⟩
end Go.Proofs.Ytkfedkckakegjaa.Own
