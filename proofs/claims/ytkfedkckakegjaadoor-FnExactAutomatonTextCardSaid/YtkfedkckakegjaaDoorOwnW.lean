/- Words of my own for walks: a row that was just made, stored as an element of a row of rows. -/
import Derived.Test.YtkfedkckakegjaaDoorWMore
import Derived.Test.YtkfedkckakegjaaDoorWMore
namespace Go.Proofs.YtkfedkckakegjaaDoor.Own
open Go.RowKit YtkfedkckakegjaaDoorW.PrintWords YtkfedkckakegjaaDoorW.PrintLast YtkfedkckakegjaaDoorW.PrintMore
set_option linter.unusedVariables false

theorem S_store {α : Type} {d : Kd α} {q e : Nat} {W0 W1 : World} {base g n cap : Nat} {xs : List (List α)} {u : Value} {ys : List α}
  (hS : Kd.S (Kd.slice q d) e W0 base (fun _ => True) (.slice (some ⟨g, 0, none⟩) n cap) xs) (hbase : base ≤ W0.heap.size) (hb : Below W0.heap.size W0 W1)
  (hR : d.R q W1 W0.heap.size (fun _ => True) u ys) (i : Int) (h0 : 0 ≤ i) (h1 : i < n) :
  (Kd.S (Kd.slice q d) e (W1.setCell ⟨g, i.toNat, none⟩ u) base (fun _ => True) (.slice (some ⟨g, 0, none⟩) n cap) (xs.set i.toNat ys) ∧ W1.grownBy (W1.setCell ⟨g, i.toNat, none⟩ u) (some g)) ∧
   (∃ x, W1.cell? ⟨g, i.toNat, none⟩ = some x) ∧ W1.frozen? ⟨g, i.toNat, none⟩ = false := by
 have hg : g < W0.heap.size := Kd.S_lt hS g rfl
 have hS1 : Kd.S (Kd.slice q d) e W1 base (fun k => True ∧ ¬ W0.heap.size ≤ k) (.slice (some ⟨g, 0, none⟩) n cap) xs :=
  Kd.S_mono (Kd.S_old hS hb) (fun k hk => ⟨trivial, by omega⟩)
 obtain ⟨oki, c, hcl, hM, hcc, hfr, hoki, hH⟩ := Kd.S_elem hS1 [] i h0 h1
 have hcl1 : c.length = 1 := hcl
 obtain ⟨c0, rfl⟩ : ∃ c0, c = [c0] := by
  match c, hcl1 with
  | [x], _ => exact ⟨x, rfl⟩
 have hM1 : (Kd.slice q d).M W1 base (fun k => W0.heap.size ≤ k) ys ([c0].take 0 ++ [u] ++ [c0].drop (0 + [u].length)) := by
  refine ⟨u, by simp, ?_⟩
  exact Kd.R_mono (Kd.R_lower (Kd.R_bound hR) hbase) (fun k hk => hk.2.1)
 have := Kd.S_seg (okg := fun k => W0.heap.size ≤ k) hH h0 h1 (seg := [u]) (j := 0) (show 1 ≤ 1 by decide) hM1 (fun k hk => .inr hk) (fun k hk => ⟨trivial, by omega⟩)
 have hc0 := hcc 0 c0 rfl
 have hf0 := hfr 0
 simp only [show (Kd.slice q d).sz = 1 from rfl, Nat.mul_one, Nat.add_zero] at this hc0 hf0
 exact ⟨this, ⟨c0, hc0⟩, hf0⟩
/-! What a call made, told by numbers: its blocks lie between two heap sizes. -/
section
variable {α : Type} {d : Kd α} {e lo n b : Nat} {W W2 : World} {ok ok' : Nat → Prop} {v : Value} {xs : List α}
theorem R_iv {wN : World} (hE : d.E = []) (h : d.R e W2 W.heap.size ok v xs) (hn : n ≤ wN.heap.size) (h0 : Below wN.heap.size wN W) (hb : Below W.heap.size W W2) :
  ∃ lo, Aside0 (d.R e W2 n (fun k => some k = v.ownBlock ∧ lo ≤ k ∧ k < W2.heap.size) v xs) ∧ Aside0 (wN.heap.size ≤ lo ∧ lo ≤ W2.heap.size) :=
 ⟨W.heap.size, ⟨Kd.R_lower (Kd.R_mono (Kd.R_bound (Kd.R_tight hE h)) (fun k hk => ⟨hk.1, hk.2.1, hk.2.2.1⟩)) (Nat.le_trans hn h0.size)⟩, ⟨h0.size, hb.size⟩⟩
theorem S_iv {wN : World} (h : Kd.S d e W2 W.heap.size ok v xs) (hn : n ≤ wN.heap.size) (h0 : Below wN.heap.size wN W) (hb : Below W.heap.size W W2) :
  ∃ lo, Aside0 (Kd.S d e W2 n (fun k => ok k ∧ lo ≤ k ∧ k < W2.heap.size) v xs) ∧ Aside0 (wN.heap.size ≤ lo ∧ lo ≤ W2.heap.size) :=
 ⟨W.heap.size, ⟨Kd.S_lower (Kd.S_mono (Kd.S_bound h) (fun k hk => ⟨hk.1, hk.2.1, hk.2.2.1⟩)) (Nat.le_trans hn h0.size)⟩, ⟨h0.size, hb.size⟩⟩
theorem N_iv {wN : World} (h : Kd.N d e W2 W.heap.size ok v xs) (hn : n ≤ wN.heap.size) (h0 : Below wN.heap.size wN W) (hb : Below W.heap.size W W2) :
  ∃ lo, Aside0 (Kd.N d e W2 n (fun k => ok k ∧ k < W2.heap.size) v xs) ∧ Aside0 (wN.heap.size ≤ lo ∧ lo ≤ W2.heap.size) :=
 ⟨W.heap.size, ⟨Kd.N_lower (Kd.N_bound h) (Nat.le_trans hn h0.size)⟩, ⟨h0.size, hb.size⟩⟩
theorem R_ivb {wN : World} (g : Nat) (hE : d.E = []) (h : d.R e W2 W.heap.size ok v xs) (hn : n ≤ wN.heap.size) (h0 : Below wN.heap.size wN W) (hb : Below W.heap.size W W2) (hg : g < W.heap.size) :
  ∃ lo, Aside0 (d.R e W2 n (fun k => some k = v.ownBlock ∧ lo ≤ k ∧ k < W2.heap.size) v xs) ∧ Aside0 (wN.heap.size ≤ lo ∧ lo ≤ W2.heap.size ∧ g < lo) :=
 ⟨W.heap.size, ⟨Kd.R_lower (Kd.R_mono (Kd.R_bound (Kd.R_tight hE h)) (fun k hk => ⟨hk.1, hk.2.1, hk.2.2.1⟩)) (Nat.le_trans hn h0.size)⟩, ⟨h0.size, hb.size, hg⟩⟩
theorem S_ivb {wN : World} (g : Nat) (h : Kd.S d e W2 W.heap.size ok v xs) (hn : n ≤ wN.heap.size) (h0 : Below wN.heap.size wN W) (hb : Below W.heap.size W W2) (hg : g < W.heap.size) :
  ∃ lo, Aside0 (Kd.S d e W2 n (fun k => ok k ∧ lo ≤ k ∧ k < W2.heap.size) v xs) ∧ Aside0 (wN.heap.size ≤ lo ∧ lo ≤ W2.heap.size ∧ g < lo) :=
 ⟨W.heap.size, ⟨Kd.S_lower (Kd.S_mono (Kd.S_bound h) (fun k hk => ⟨hk.1, hk.2.1, hk.2.2.1⟩)) (Nat.le_trans hn h0.size)⟩, ⟨h0.size, hb.size, hg⟩⟩
theorem N_ivb {wN : World} (g : Nat) (h : Kd.N d e W2 W.heap.size ok v xs) (hn : n ≤ wN.heap.size) (h0 : Below wN.heap.size wN W) (hb : Below W.heap.size W W2) (hg : g < W.heap.size) :
  ∃ lo, Aside0 (Kd.N d e W2 n (fun k => ok k ∧ k < W2.heap.size) v xs) ∧ Aside0 (wN.heap.size ≤ lo ∧ lo ≤ W2.heap.size ∧ g < lo) :=
 ⟨W.heap.size, ⟨Kd.N_lower (Kd.N_bound h) (Nat.le_trans hn h0.size)⟩, ⟨h0.size, hb.size, hg⟩⟩
end
/-- A flat row's blocks are its own one alone: ok may be told anew. -/
theorem R_ok {k : IntKind} {e b : Nat} {W2 : World} {ok ok' : Nat → Prop} {v : Value} {xs : List Int} (h : (Kd.int k).R e W2 b ok v xs) (h0 : ∀ k, v.ownBlock = some k → ok' k) : (Kd.int k).R e W2 b ok' v xs := ⟨h0, h.2⟩
section
variable {P : Program} {md : Region.Mode} {ops : Array Oper} {Q : Exit → Act → World → Prop} {S : World → Prop} {ds : List Nat}
/-- In a region: the world gets a name of its own. -/
theorem anew_ {fuel : Nat} {l : Array Bool} {a : Act} {W wN : World} (hb : Below wN.heap.size wN W) (hS : S W) (h : ∀ wd, Below wN.heap.size wN wd → S wd → wpAnyLast P md ops Q S ds fuel l a wd) : wpAnyLast P md ops Q S ds fuel l a W := h W hb hS
end
/-- What writes an act out (for 'simp only'). -/
theorem putL : (∀ (a : Act) (i : Nat) (v : Value), a.put (some i) v = { a with tmps := a.tmps.setIfInBounds i v }) ∧ (∀ (a : Act) (v : Value), a.put none v = a) ∧ (∀ (l : List Value) (i : Nat) (v : Value), l.toArray.setIfInBounds i v = (l.set i v).toArray) ∧
  (∀ (x y : Value) (l : List Value), (x :: l).set 0 y = y :: l) ∧ (∀ (x y : Value) (l : List Value) (i : Nat), (x :: l).set (i + 1) y = x :: l.set i y) ∧ (∀ n : Int, IntKind.i64.wrap n = wrap64 n) ∧ (∀ n : Int, IntKind.i32.wrap n = wrap32 n) :=
 ⟨fun _ _ _ => rfl, fun _ _ => rfl, fun _ _ _ => List.setIfInBounds_toArray .., fun _ _ _ => rfl, fun _ _ _ _ => rfl, i64_w, i32_w⟩
section
variable {P : Program} {ops : Array Oper} {Q : Exit → Act → World → Prop} {md : Region.Mode} {S : World → Prop} {ds : List Nat} {fuel : Nat} {l : Array Bool} {a a' : Act} {w : World}
/-- A step of a region that draws, an operation that yields in every world: the usual proofs of its side conditions are its defaults. -/
theorem pu_ {i : Nat} {N : Option Tmp} {oi : Oper} {v : Value} (l' : Array Bool) (h : wpAnyLast P md ops Q S ds fuel l' a' w) (hi : ops[i]? = some oi := by rfl) (hN : oi.dst = N := by rfl) (hc : anyB md ops l l' i = true := by kernel_rfl)
  (hw : Region.wanted oi (yielded ops a.tmps) = true := by rfl) (hy : ∀ w', (execOp a.eval oi).run P w' = .ok (.value v) w' := by intro w'; go_simp; with_reducible rfl) (ha : a.put N v = a' := by simp only [Go.Proofs.YtkfedkckakegjaaDoor.Own.putL]; rfl)
  (hQ : ∀ c a w, Q (.panic c) (a.put oi.dst v) w → Q (.panic c) a w := by exact fun _ _ _ h => h) : wpAnyLast P md ops Q S ds (fuel + 1) l a w := pure_ l' hi hN hc hQ (Or.inl ⟨hw, hy⟩) ha h
/-- The same for one that reads what S tells of. -/
theorem tk_ {i : Nat} {N : Option Tmp} {oi : Oper} {v : Value} (l' : Array Bool) (hS : S w) (h : wpAnyLast P md ops Q S ds fuel l' a' w) (hi : ops[i]? = some oi := by rfl) (hN : oi.dst = N := by rfl) (hc : takeB md ops ds l l' i = true := by kernel_rfl)
  (hw : Region.wanted oi (yielded ops a.tmps) = true := by rfl) (hy : ∀ w', S w' → (execOp a.eval oi).run P w' = .ok (.value v) w' := by intro w' hs; (repeat obtain ⟨_, hs⟩ := hs); go_simp; with_reducible rfl) (ha : a.put N v = a' := by simp only [Go.Proofs.YtkfedkckakegjaaDoor.Own.putL]; rfl)
  (hQ : ∀ c a w, Q (.panic c) (a.put oi.dst v) w → Q (.panic c) a w := by exact fun _ _ _ h => h) : wpAnyLast P md ops Q S ds (fuel + 1) l a w := take_ l' hi hN hc hQ (Or.inl ⟨hw, hy⟩) hS ha h
theorem nm_ (N : Option Tmp) {v : Value} (h : wpAnyLast P md ops Q S ds fuel l a' w) (ha : a.put N v = a' := by simp only [Go.Proofs.YtkfedkckakegjaaDoor.Own.putL]; rfl) : wpAnyLast P md ops Q S ds fuel l (a.put N v) w := norm_ ha h
end
theorem bel {n : Nat} {w W : World} (h : Below n w W := by repeat (first | with_reducible exact Below.refl _ _ | with_reducible apply below_alloc | with_reducible refine below_set ?_ (Nat.le_refl _) | with_reducible apply pw_below_drewN | with_reducible apply below_drew1)) : Below n w W := h
theorem mapd {p : Prop} (h : p := by (try simp only [List.map_toArray, List.map_cons, List.map_nil]); first | done | rfl | (simp only [List.length_drop, List.length_take]; rfl)) : p := h
end Go.Proofs.YtkfedkckakegjaaDoor.Own
