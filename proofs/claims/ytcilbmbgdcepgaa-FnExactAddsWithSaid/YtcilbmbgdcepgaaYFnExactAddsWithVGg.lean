/- What both programs hold while they search the groups of a board: the box, the groups so far, the queue, the neighbours (printed by gen_gg.py). -/
import Derived.Test.YtcilbmbgdcepgaaYFnExactAddsWithVCell
import Derived.Test.YtcilbmbgdcepgaaYFnExactAddsWithAGo
import Derived.IntWalk
namespace Go.Proofs.Ytcilbmbgdcepgaa.P
open Go.RowKit YtcilbmbgdcepgaaW.PrintWords YtcilbmbgdcepgaaW.PrintLast YtcilbmbgdcepgaaW.PrintMore Own A
set_option linter.unusedVariables false
set_option linter.unusedSimpArgs false
def natI (l : List Nat) : List Int := l.map fun x : Nat => (x : Int)
theorem natI_len (l : List Nat) : (natI l).length = l.length := by simp [natI]
theorem natI_snoc (l : List Nat) (x : Nat) : natI (l ++ [x]) = natI l ++ [(x : Int)] := by simp [natI]
theorem rd_nat (l : List Int) (x : Nat) : rd l (x : Int) = l.getD x 0 := by simp [rd, List.getD_eq_getElem?_getD]
theorem rd_natI (l : List Nat) (k : Nat) : rd (natI l) (k : Int) = ((l.getD k 0 : Nat) : Int) := by
 rw [rd_nat]
 simp only [natI, List.getD_eq_getElem?_getD, List.getElem?_map]
 cases l[k]? <;> simp
structure GgS (w W : World) (bv : Array Value) (go n co : Nat) (out : List Int) (vq : Value) (op : List Nat) : Prop where
 bA : W.heap[w.heap.size]? = some (.cells bv 24 (0, 0))
 ro : Kd.R (Kd.int .i64) 3 W w.heap.size (fun k => some k ≠ vq.ownBlock) (.slice (some ⟨go, 0, none⟩) n co) out
 q : Kd.Q (Kd.int .i64) 3 W w.heap.size (fun k => k ≠ go) vq (natI op)
 be : Below w.heap.size w W
section
variable {w W W1 : World} {bv : Array Value} {go n co : Nat} {out : List Int} {vq : Value} {op near : List Nat}
theorem GgS.below (h : GgS w W bv go n co out vq op) (hb : Below W.heap.size W W1) : GgS w W1 bv go n co out vq op := ⟨blk_below h.bA hb, Kd.R_below h.ro hb, Kd.Q_below h.q hb, below_step h.be hb⟩
theorem GgS.ne (h : GgS w W bv go n co out vq op) : w.heap.size ≠ go := fun e_ => by
 have h1 : some w.heap.size ≠ some go := Kd.R_ne h.ro h.bA (by decide)
 exact h1 (by rw [e_])
theorem GgS.put (h : GgS w W bv go n co out vq op) (i : Nat) (x : Int) : GgS w (W.setCell ⟨go, i, none⟩ (.int .i64 x)) bv go n co (out.set i x) vq op := by
 have hp := Kd.R_putn h.ro (i : Int) x
 rw [Int.toNat_natCast] at hp
 exact ⟨blk_far h.bA (p := ⟨go, i, none⟩) h.ne _, hp, Kd.Q_far h.q (p := ⟨go, i, none⟩) (fun _ hk => hk) _, below_set h.be (Kd.R_base h.ro go rfl)⟩
theorem GgS.lit (h : GgS w W bv go n co out vq op) {v1 : Value} {op1 : List Nat} (hR : Kd.R (Kd.int .i64) 3 W1 w.heap.size (fun k => k ≠ go) v1 (natI op1)) (hg : W.grownBy W1 none) (hnew : ∃ b, v1.ownBlock = some b ∧ W.heap.size ≤ b) : GgS w W1 bv go n co out v1 op1 :=
 ⟨blk_below h.bA (below_of_grown hg), Kd.R_mono (Kd.R_elder' h.ro (fun k hk => by obtain ⟨b, hb, hle⟩ := hnew; rw [hb] at hk; injection hk with hk; omega) (below_of_grown hg)) (fun _ hk => hk.2), Kd.Q_of_R hR, below_step h.be (below_of_grown hg)⟩
theorem GgS.app (h : GgS w W bv go n co out vq op) {v1 : Value} {x : Nat} (hq : Kd.Q (Kd.int .i64) 3 W1 w.heap.size (fun k => k ≠ go) v1 (natI op ++ [(x : Int)])) (hb : Below w.heap.size w W1) (hg : W.grownBy W1 vq.ownBlock) (hat : v1.ownBlock = vq.ownBlock ∨ ∃ b, v1.ownBlock = some b ∧ W.heap.size ≤ b) : GgS w W1 bv go n co out v1 (op ++ [x]) :=
 ⟨blk_grown h.bA hg (Kd.Q_ne h.q h.bA (by decide)), Kd.R_mono (Kd.R_after (ok := fun _ => True) (Kd.R_mono h.ro (fun _ hk => ⟨trivial, hk⟩)) hg hat) (fun _ hk => hk.2), by rw [natI_snoc]; exact hq, hb⟩
theorem GgS.drop1 (h : GgS w W bv go n co out vq op) {v1 : Value} {op1 : List Nat} (hq : Kd.Q (Kd.int .i64) 3 W w.heap.size (fun k => k ≠ go) v1 (natI op1)) (hv : v1.ownBlock = vq.ownBlock) : GgS w W bv go n co out v1 op1 := ⟨h.bA, by rw [hv]; exact h.ro, hq, h.be⟩
/-- The neighbours' row beside it. -/
def GgN (w W : World) (go : Nat) (vq vn : Value) (near : List Nat) : Prop := Kd.R (Kd.int .i64) 3 W w.heap.size (fun k => k ≠ go ∧ some k ≠ vq.ownBlock) vn (natI near)
theorem GgN.new (h : GgS w W bv go n co out vq op) {vn : Value} (hn : Kd.R (Kd.int .i64) 3 W1 W.heap.size (fun _ => True) vn (natI near)) : GgN w W1 go vq vn near := by
 have h1 := Kd.R_new' (Kd.R_new' hn (Kd.R_lt h.ro)) (Kd.Q_lt h.q)
 exact Kd.R_lower (Kd.R_mono h1 (fun k hk => ⟨fun e_ => hk.1.2 (by rw [e_]; rfl), hk.2⟩)) h.be.size
theorem GgN.below {vn : Value} (h : GgN w W go vq vn near) (hb : Below W.heap.size W W1) : GgN w W1 go vq vn near := Kd.R_below h hb
theorem GgN.put {vn : Value} (h : GgN w W go vq vn near) (i : Nat) (u : Value) : GgN w (W.setCell ⟨go, i, none⟩ u) go vq vn near := Kd.R_far (p := ⟨go, i, none⟩) h (fun _ hk => hk.1) u
theorem GgN.app {vn v1 : Value} (h : GgN w W go vq vn near) (hg : W.grownBy W1 vq.ownBlock) (hat : v1.ownBlock = vq.ownBlock ∨ ∃ b, v1.ownBlock = some b ∧ W.heap.size ≤ b) : GgN w W1 go v1 vn near := Kd.R_after h hg hat
end
theorem fill_step (n i : Nat) (h : i < n) : (List.replicate i (-1 : Int) ++ List.replicate (n - i) 0).set i (-1) = List.replicate (i + 1) (-1) ++ List.replicate (n - (i + 1)) 0 := by
 obtain ⟨d, rfl⟩ : ∃ d, n = i + (d + 1) := ⟨n - i - 1, by omega⟩
 rw [show i + (d + 1) - i = d + 1 by omega, show i + (d + 1) - (i + 1) = d by omega, List.replicate_succ, List.set_append_right _ _ (by simp)]
 simp [List.replicate_succ']
theorem GgS_new {w W W1 : World} {bv : Array Value} {go n co : Nat} {out : List Int} (hA : W.heap[w.heap.size]? = some (.cells bv 24 (0, 0))) (hR : Kd.R (Kd.int .i64) 3 W1 w.heap.size (fun _ => True) (.slice (some ⟨go, 0, none⟩) n co) out) (hg : W.grownBy W1 none) (hb : Below w.heap.size w W) : GgS w W1 bv go n co out (.slice none 0 0) [] :=
 ⟨blk_below hA (below_of_grown hg), Kd.R_mono hR (fun k _ => by simp [Value.ownBlock]), Kd.Q_nil _ _ _ _ _, below_step hb (below_of_grown hg)⟩
theorem GgS.cell {w W : World} {bv : Array Value} {go n co : Nat} {out : List Int} {vq : Value} {op : List Nat} (h : GgS w W bv go n co out vq op) (i : Nat) (hi : i < n) : W.cell? ⟨go, i, none⟩ = some (.int .i64 (rd out (i : Int))) ∧ W.frozen? ⟨go, i, none⟩ = false := by
 have hc := Kd.R_celln 0 h.ro (i : Int) (by omega) (by omega)
 rw [Int.toNat_natCast] at hc
 exact hc
theorem rdc (l : List S71) (i : Nat) : rd_T71 l (i : Int) = l.getD i ⟨0, 0⟩ := by (simp [rd_T71, List.getD_eq_getElem?_getD]; rfl)
theorem bfsL_end (R cn : Nat) (cs : List S71) (g : Int) (d k : Nat) (out : List Int) (op : List Nat) (h : ¬ k < op.length) : bfsL R cn cs g d k out op = (out, op) := by
 cases d with
 | zero => rfl
 | succ d => rw [bfsL, if_neg h]
theorem nearL_len (R cn i : Nat) : (nearL R cn i).length ≤ 4 := by
 unfold nearL
 simp only [List.length_append]
 have h : ∀ (p : Prop) [Decidable p] (x : Nat), (if p then [x] else ([] : List Nat)).length ≤ 1 := fun p _ x => by split <;> simp
 have h1 := h (0 < i / cn) (i - cn)
 have h2 := h (0 < i % cn) (i - 1)
 have h3 := h (i % cn + 1 < cn) (i + 1)
 have h4 := h (i / cn + 1 < R) (i + cn)
 omega
/-- What is known of the groups and the queue, the queue read up to k, d steps being left. -/
def GgB (n d k : Nat) (out : List Int) (op : List Nat) : Prop := out.length = n ∧ (∀ x ∈ op, x < n) ∧ negs out + op.length ≤ n + 1 ∧ k ≤ op.length ∧ negs out + (op.length - k) ≤ d
theorem GgB.put {n d k x : Nat} {g : Int} {out : List Int} {op : List Nat} (h : GgB n d k out op) (hg : 0 ≤ g) (hx : x < n) (hn : rd out (x : Int) < 0) : GgB n d k (out.set x g) (op ++ [x]) := by
 obtain ⟨h1, h2, h3, h4, h5⟩ := h
 have h6 := negs_set out x g hg (by omega) (by rw [← rd_nat]; exact hn)
 refine ⟨by rw [List.length_set]; exact h1, ?_, ?_, ?_, ?_⟩
 ·intro y hy
  rcases List.mem_append.1 hy with hy | hy
  ·exact h2 y hy
  ·simp at hy; subst hy; exact hx
 ·rw [List.length_append, List.length_singleton]; omega
 ·rw [List.length_append, List.length_singleton]; omega
 ·rw [List.length_append, List.length_singleton]; omega
theorem GgB.first {n i : Nat} {g : Int} {out : List Int} (hl : out.length = n) (hg : 0 ≤ g) (hi : i < n) (hn : rd out (i : Int) < 0) : GgB n n 0 (out.set i g) [i] := by
 have h6 := negs_set out i g hg (by omega) (by rw [← rd_nat]; exact hn)
 have h7 := negs_le out
 refine ⟨by rw [List.length_set]; exact hl, ?_, ?_, ?_, ?_⟩
 ·intro y hy; simp at hy; subst hy; exact hi
 ·rw [List.length_singleton]; omega
 ·rw [List.length_singleton]; omega
 ·rw [List.length_singleton]; omega
theorem GgB.next {n d k : Nat} {out : List Int} {op : List Nat} (h : GgB n (d + 1) k out op) (hk : k < op.length) : GgB n d (k + 1) out op := by
 obtain ⟨h1, h2, h3, h4, h5⟩ := h
 exact ⟨h1, h2, h3, by omega, by omega⟩
theorem GgB.pos {n d k : Nat} {out : List Int} {op : List Nat} (h : GgB n d k out op) (hk : k < op.length) : ∃ d', d = d' + 1 := ⟨d - 1, by obtain ⟨h1, h2, h3, h4, h5⟩ := h; omega⟩
theorem GgB.at {n d k : Nat} {out : List Int} {op : List Nat} (h : GgB n d k out op) (hk : k < op.length) : op.getD k 0 < n := by
 rw [← List.getElem_eq_getD (h := hk)]
 exact h.2.1 _ (List.getElem_mem hk)
theorem visitL_in {cs : List S71} {g : Int} {near : List Nat} {j : Nat} (hj : j < near.length) (out : List Int) (op : List Nat) :
  visitL cs g (near.drop j) out op = if gearB (cs.getD (near.getD j 0) ⟨0, 0⟩) = true ∧ rd out ((near.getD j 0 : Nat) : Int) < 0 then visitL cs g (near.drop (j + 1)) (out.set (near.getD j 0) g) (op ++ [near.getD j 0]) else visitL cs g (near.drop (j + 1)) out op := by
 have hd : near.drop j = near.getD j 0 :: near.drop (j + 1) := by rw [← List.getElem_eq_getD (h := hj)]; exact List.drop_eq_getElem_cons hj
 rw [hd, visitL, rd_nat]
theorem getD_memN {l : List Nat} {j n : Nat} (h : ∀ x ∈ l, x < n) (hj : j < l.length) : l.getD j 0 < n := by
 rw [← List.getElem_eq_getD (h := hj)]
 exact h _ (List.getElem_mem hj)
end Go.Proofs.Ytcilbmbgdcepgaa.P
