/- Words of my own for a row of rows that is put together out of rows of an older row of rows, each of them taken at most once. -/
import Derived.Test.YtkfedkckakegjaaOwnBfs
namespace Go.Proofs.Ytkfedkckakegjaa.Own
open Go.RowKit Go.Proofs.YtkfedkckakegjaaW.PrintWords Go.Proofs.YtkfedkckakegjaaW.PrintLast Go.Proofs.YtkfedkckakegjaaW.PrintMore
set_option linter.unusedVariables false
variable {ws W W1 : World} {base : Nat} {f : Nat → Nat} {used : List Nat} {v v1 u : Value} {X Y Y1 : List (List Int)} {ys : List Int}
/-- Element i of the older row: where it lies, and whose its block is. -/
theorem pick {ad : Addr} {n cap : Nat} {ok : Nat → Prop} (h : (Kd.tag f (Kd.slice 3 (Kd.int .i64))).R 23 ws base ok (.slice (some ad) n cap) X.zipIdx) (i : Nat) (hi : i < X.length) :
    ∃ (A : Option Addr) (c : Nat), ws.cell? (ad.add i) = some (.slice A (X.getD i []).length c) ∧ Kd.R (Kd.int .i64) 3 ws base (fun k => some k = (Value.slice A (X.getD i []).length c).ownBlock) (.slice A (X.getD i []).length c) (X.getD i []) ∧ ∀ k, (Value.slice A (X.getD i []).length c).ownBlock = some k → f k = i ∧ k < ws.heap.size := by
  have hn := (Kd.R_reads' h).1
  rw [List.length_zipIdx] at hn
  obtain ⟨c, hc, hM, hcell⟩ := Kd.R_getA h ([], 0) (i : Int) (by omega) (by omega)
  have hz : X.zipIdx.getD (i : Int).toNat ([], 0) = (X.getD i [], i) := by
    rw [Int.toNat_natCast, List.getD_eq_getElem?_getD, List.getElem?_zipIdx, List.getD_eq_getElem?_getD, List.getElem?_eq_getElem hi]
    simp
  rw [hz] at hM
  obtain ⟨u, rfl, hu⟩ := hM
  obtain ⟨A, cc, rfl⟩ := Kd.R_slice hu
  have h0 := hcell 0 _ rfl
  have hs : (Int.toNat (i : Int)) * (Kd.tag f (Kd.slice 3 (Kd.int .i64))).sz + 0 = i := by
    show (Int.toNat (i : Int)) * 1 + 0 = i
    omega
  rw [hs] at h0
  exact ⟨A, cc, h0, Kd.R_tight rfl hu, fun k hk => ⟨(hu.1 k hk).2, Kd.R_lt hu k hk⟩⟩
/-- The new row: its rows' blocks are those of the older row's elements 'used'. -/
structure Sel (w ws W : World) (f : Nat → Nat) (used : List Nat) (v : Value) (Y : List (List Int)) : Prop where
  ro : Kd.S (Kd.slice 3 (Kd.int .i64)) 23 W w.heap.size (fun k => ws.heap.size ≤ k ∨ f k ∈ used) v Y
  own : ∀ k, v.ownBlock = some k → ws.heap.size ≤ k
  le : Below ws.heap.size ws W
  be : Below w.heap.size w W
variable {w : World}
theorem Sel.below (h : Sel w ws W f used v Y) (hb : Below W.heap.size W W1) : Sel w ws W1 f used v Y := ⟨Kd.S_below h.ro hb, h.own, below_step h.le hb, below_step h.be hb⟩
theorem Sel.row (h : Sel w ws W f used v Y) (hr : Kd.R (Kd.int .i64) 3 ws w.heap.size (fun k => some k = u.ownBlock) u ys) : (Kd.slice 3 (Kd.int .i64)).M W w.heap.size (fun k => some k = u.ownBlock) ys [u] := ⟨u, rfl, Kd.R_below hr h.le⟩
theorem Sel.okp (h : Sel w ws W f used v Y) {i : Nat} (hf : ∀ k, u.ownBlock = some k → f k = i ∧ k < ws.heap.size) : ∀ k, some k = u.ownBlock → (ws.heap.size ≤ k ∨ f k ∈ i :: used) ∧ some k ≠ v.ownBlock := fun k hk => by
  have h1 := hf k hk.symm
  refine ⟨.inr (by rw [h1.1]; exact List.mem_cons_self), fun e => ?_⟩
  have := h.own k e.symm
  omega
theorem Sel.rest (h : Sel w ws W f used v Y) {i : Nat} (hi : i ∉ used) (hf : ∀ k, u.ownBlock = some k → f k = i ∧ k < ws.heap.size) : Kd.S (Kd.slice 3 (Kd.int .i64)) 23 W w.heap.size (fun k => (ws.heap.size ≤ k ∨ f k ∈ i :: used) ∧ ¬ some k = u.ownBlock) v Y :=
  Kd.S_mono h.ro (fun k hk => ⟨hk.imp id (fun h2 => List.mem_cons_of_mem _ h2), fun e => by
    have h1 := hf k e.symm
    rcases hk with hk | hk
    · omega
    · rw [h1.1] at hk; exact hi hk⟩)
theorem Sel.fresh (h : Sel w ws W f used v Y) {i : Nat} : ∀ k, W.heap.size ≤ k → (ws.heap.size ≤ k ∨ f k ∈ i :: used) := fun k hk => .inl (Nat.le_trans h.le.size hk)
theorem Sel.push (h : Sel w ws W f used v Y) {used1 : List Nat} (ho : Kd.S (Kd.slice 3 (Kd.int .i64)) 23 W1 w.heap.size (fun k => ws.heap.size ≤ k ∨ f k ∈ used1) v1 Y1) (hb : Below w.heap.size w W1) (hg : W.grownBy W1 v.ownBlock) (hat : v1.ownBlock = v.ownBlock ∨ ∃ b, v1.ownBlock = some b ∧ W.heap.size ≤ b) : Sel w ws W1 f used1 v1 Y1 := by
  refine ⟨ho, fun k hk => ?_, ⟨hg.os.trans h.le.os, hg.tape.trans h.le.tape, hg.output.trans h.le.output, Nat.le_trans h.le.size hg.size, fun k hk => ?_⟩, hb⟩
  · rcases hat with e | ⟨b, e, hb2⟩
    · exact h.own k (e ▸ hk)
    · rw [e] at hk
      obtain rfl := Option.some.inj hk
      exact Nat.le_trans h.le.size hb2
  · rw [hg.block k (Nat.lt_of_lt_of_le hk h.le.size) (fun e => ?_)]
    · exact h.le.block k hk
    · have := h.own k e.symm
      omega
end Go.Proofs.Ytkfedkckakegjaa.Own
