/- The walk of impl.drop (printed by gen_drop.py). -/
import Derived.Test.YtcilbmbgdcepgaaYFnExactAddsWithAGoes
import Derived.Test.YtcilbmbgdcepgaaYFnExactAddsWithVPass
import Derived.Test.YtcilbmbgdcepgaaOwnW
import Derived.Test.YtcilbmbgdcepgaaYFnExactAddsWithPx82
import Derived.Test.YtcilbmbgdcepgaaYFnExactAddsWithPx83
namespace Go.Proofs.Ytcilbmbgdcepgaa.P
open Go.RowKit YtcilbmbgdcepgaaW.PrintWords YtcilbmbgdcepgaaW.PrintLast YtcilbmbgdcepgaaW.PrintMore Own A
set_option linter.unusedVariables false
set_option linter.unusedSimpArgs false
/-- The boxes, the cells that are written, the way so far. -/
structure DrS (w0 w W : World) (P : Nat → Prop) (bv : Array Value) (g n cap : Nat) (vw : Value) (ws : List Int) (cs : List S71) : Prop where
 bA : W.heap[w.heap.size]? = some (.cells bv 24 (0, 0))
 bF : W.heap[w.heap.size + 1]? = some (.cells #[.int .i64 0, .int .i64 0, .int .i64 0] 81 (0, 0))
 ro : Kd.R k71 71 W w0.heap.size P (.slice (some ⟨g, 0, none⟩) n cap) cs
 wy : Kd.R (Kd.int .i64) 3 W w0.heap.size (fun k => k ≠ g) vw ws
 wn : ∀ k, vw.ownBlock = some k → w.heap.size ≤ k
 be : Below w0.heap.size w0 W
 kp : Kept w W P
 lt : g < w.heap.size
section
variable {w0 w W W1 : World} {P : Nat → Prop} {bv : Array Value} {g n cap : Nat} {vw : Value} {ws ws1 : List Int} {cs cs1 : List S71}
theorem DrS.below (h : DrS w0 w W P bv g n cap vw ws cs) (hb : Below W.heap.size W W1) : DrS w0 w W1 P bv g n cap vw ws cs := ⟨blk_below h.bA hb, blk_below h.bF hb, Kd.R_below h.ro hb, Kd.R_below h.wy hb, h.wn, below_step h.be hb, h.kp.below hb, h.lt⟩
theorem DrS.put1 (h : DrS w0 w W P bv g n cap vw ws cs) (i : Nat) (hi : i < n) (s : Int) : DrS w0 w (W.setCell ⟨g, i * 2 + 1, none⟩ (.int .i64 s)) P bv g n cap vw ws (cs.set i ⟨(cs.getD i ⟨0, 0⟩).f0, s⟩) := by
 have hl := h.lt
 have hp : P g := h.ro.1 g rfl
 exact ⟨blk_far h.bA (p := ⟨g, i * 2 + 1, none⟩) (by simp; omega) _, blk_far h.bF (p := ⟨g, i * 2 + 1, none⟩) (by simp; omega) _, cellPut1 h.ro i hi s, Kd.R_far (p := ⟨g, i * 2 + 1, none⟩) h.wy (fun _ hk => hk) _, h.wn, below_set h.be (Kd.R_base h.ro g rfl), h.kp.setCell (.inl hp) _, hl⟩
theorem DrS.pass (h : DrS w0 w W P bv g n cap vw ws cs) (hR : Kd.R k71 71 W1 w0.heap.size (fun k_ => ((k_ = g) ∨ W.heap.size ≤ k_)) (.slice (some ⟨g, 0, none⟩) n cap) cs1) (hb : Below w0.heap.size w0 W1) (hk : Kept W W1 (fun k_ => k_ = g)) : DrS w0 w W1 P bv g n cap vw ws cs1 := by
 have hl := h.lt
 have hp : P g := h.ro.1 g rfl
 exact ⟨blk_kept h.bA hk (by omega), blk_kept h.bF hk (by omega), Kd.R_mono (Kd.R_tight rfl hR) (fun k hk_ => by have h1 : some k = some g := hk_; injection h1 with h1; rw [h1]; exact hp), Kd.R_kept h.wy hk (fun _ hk_ => hk_), h.wn, hb, h.kp.then_ hk (fun k hk_ => .inl (by rw [hk_]; exact hp)), hl⟩
theorem DrS.app {v1 : Value} (h : DrS w0 w W P bv g n cap vw ws cs) (hS : Kd.R (Kd.int .i64) 3 W1 w0.heap.size (fun k => k ≠ g) v1 ws1) (hb : Below w0.heap.size w0 W1) (hg : W.grownBy W1 vw.ownBlock) (hat : v1.ownBlock = vw.ownBlock ∨ ∃ b, v1.ownBlock = some b ∧ W.heap.size ≤ b) : DrS w0 w W1 P bv g n cap v1 ws1 cs :=
 ⟨blk_grown h.bA hg (Kd.R_ne h.wy h.bA (by decide)), blk_grown h.bF hg (Kd.R_ne h.wy h.bF (by decide)), Kd.R_mono (Kd.R_grown (Kd.R_tight rfl h.ro) hg (fun k hk => by have h1 : some k = some g := hk; rw [h1]; exact Kd.R_away h.wy (fun _ hk_ => hk_))) (fun k hk => by have h1 : some k = some g := hk; injection h1 with h1; rw [h1]; exact h.ro.1 g rfl), hS, fun k hk => by
  rcases hat with hat | ⟨b, hb_, hle⟩
  ·rw [hat] at hk; exact h.wn k hk
  ·rw [hb_] at hk; injection hk with hk; have := h.kp.1; omega, hb, Kept.of_grown hg h.kp (fun k hk => .inr (h.wn k hk)), h.lt⟩
end
/-- What comes back: the end; the cells after it in their own place, all else kept. -/
def DropMade (w0 w : World) (P : Nat → Prop) (g n cap : Nat) (p : (Int × Int × Int) × List S71) (e_ : Ending) (w' : World) : Prop := ∃ vw : Value, e_ = .returned (.tuple #[.agg #[.int .i64 p.1.1, .int .i64 p.1.2.1, .int .i64 p.1.2.2], vw]) ∧ Kd.R k71 71 w' w0.heap.size P (.slice (some ⟨g, 0, none⟩) n cap) p.2 ∧ Below w0.heap.size w0 w' ∧ Kept w w' P
/-! ### impl_drop: function 76 -/
def impl_drop.f : Unit := ()
theorem impl_drop.calls : impl_drop.f = () := rfl
set_option maxHeartbeats 16000000 in
set_option maxRecDepth 100000 in
theorem drop_own (w0 w : World) (P : Nat → Prop) (g n cap R cn : Nat) (l0 : List S71) (A1 : Option Addr) (c1 : Nat) (gs : List Int) (col0 : Int) (hB : Below w0.heap.size w0 w) (ho : Kd.R k71 71 w w0.heap.size P (.slice (some ⟨g, 0, none⟩) n cap) l0) (hG : ∀ W_, Kept w W_ (fun k_ => P k_) → Kd.C (Kd.int .i64) W_ A1 gs.length gs) (hgc : gs.length ≤ c1) (hb : BoOk (R : Int) (cn : Int) l0) (hgl : gs.length = R * cn) (h0 : 0 ≤ col0) (h1 : col0 < (cn : Int)) :
  Calls Try.prog 76 #[.agg #[.int .i64 (R : Int), .int .i64 (cn : Int), .slice (some ⟨g, 0, none⟩) n cap], .slice A1 gs.length c1, .int .i64 col0] w fun e_ w' => DropMade w0 w P g n cap (goC cn gs R 0 col0 0 l0) e_ w' := by
 have hu24 := Try.underlying24
 have hu65 := Try.underlying81
 have hu71 := Try.underlying71
 have HG := Aside0.mk hG
 have HGC := Aside0.mk hgc
 have HGL := Aside0.mk hgl
 have hR10 : R ≤ 10 := by have := hb.1.2; omega
 have hc9 : cn ≤ 9 := by have := hb.2.1.2; omega
 have HBO := Aside0.mk hb
 have hl90 := hb.len
 have hn : n = l0.length := (Kd.R_reads' ho).1
 have hn90 : n ≤ 90 := by omega
 obtain ⟨Q, hQ⟩ : ∃ Q, goC cn gs R 0 col0 0 l0 = Q := ⟨_, rfl⟩
 rw [hQ]
 have HQ0 : Aside0 (goC cn gs (R - 0) 0 col0 0 l0 = Q) := ⟨hQ⟩
 have z1 : (w.alloc (.cells #[.int .i64 (R : Int), .int .i64 (cn : Int), .slice (some ⟨g, 0, none⟩) n cap] 24)).heap.size = w.heap.size + 1 := Array.size_push _
 have BA := Aside0.mk (blk_alloc (blk_new w (.cells #[.int .i64 (R : Int), .int .i64 (cn : Int), .slice (some ⟨g, 0, none⟩) n cap] 24)) (.cells #[.int .i64 0, .int .i64 0, .int .i64 0] 81))
 have BF := Aside0.mk (blk_new (w.alloc (.cells #[.int .i64 (R : Int), .int .i64 (cn : Int), .slice (some ⟨g, 0, none⟩) n cap] 24)) (.cells #[.int .i64 0, .int .i64 0, .int .i64 0] 81))
 rw [z1] at BF
 have HB0 := Aside0.mk (below_alloc (below_alloc hB (.cells #[.int .i64 (R : Int), .int .i64 (cn : Int), .slice (some ⟨g, 0, none⟩) n cap] 24)) (.cells #[.int .i64 0, .int .i64 0, .int .i64 0] 81))
 have HK0 := Aside0.mk (((Kept.refl w P).alloc (.cells #[.int .i64 (R : Int), .int .i64 (cn : Int), .slice (some ⟨g, 0, none⟩) n cap] 24)).alloc (.cells #[.int .i64 0, .int .i64 0, .int .i64 0] 81))
 have HR0 := Aside0.mk (Kd.R_alloc (Kd.R_alloc ho (.cells #[.int .i64 (R : Int), .int .i64 (cn : Int), .slice (some ⟨g, 0, none⟩) n cap] 24)) (.cells #[.int .i64 0, .int .i64 0, .int .i64 0] 81))
 have LG := Kd.R_lt ho g rfl
 have LGA := Aside0.mk LG
 clear hG hgc hgl hb hQ hB ho z1 hl90 hn
 go_enter Try.func76, Try.ntmps76
 go_wp2_with (first
  | ((with_reducible refine gate_dst (N := 15) rfl ?_); refine Kd.R_lit (Kd.int .i64) (w0 := w0) w0.heap.size 3 ?hg (N := 15) ?hd (xs := ([] : List Int)) (inner := []) (ok := fun k_ => k_ ≠ g) (okp := fun _ => False) ?hr (Reps.none _ _) (fun _ hk => hk.elim) ?hf HB0.out HB0.out.size (by simp) ?_; (case hd => rfl); (case hg => rfl); (case hr => first | (go_simp; done) | (go_simp; rfl)); (case hf => exact (fun e_ => by have h1_ := LGA.out; have h2_ := HK0.out.1; omega)); intro v5 w5 hR hb hg_ hnew; have HS0 : Aside0 (DrS w0 w w5 P #[.int .i64 (R : Int), .int .i64 (cn : Int), .slice (some ⟨g, 0, none⟩) n cap] g n cap v5 [] l0) := ⟨⟨blk_below BA.out (below_of_grown hg_), blk_below BF.out (below_of_grown hg_), Kd.R_below HR0.out (below_of_grown hg_), hR, fun k_ hk => by obtain ⟨b_, hb_, hle⟩ := hnew; rw [hb_] at hk; injection hk with hk; have := HK0.out.1; omega, below_step HB0.out (below_of_grown hg_), HK0.out.below (below_of_grown hg_), LGA.out⟩⟩; clear hR hb hg_ hnew HB0 HK0 HR0 BA BF LGA)
  | fail)
 clear LG
 go_loopw [2, 8, 9, 10] (fun v2 v8 v9 v10 wr => ∃ (row : Nat) (col side : Int) (ws : List Int) (cs : List S71), v2 = .int .i64 col ∧ v9 = .int .i64 side ∧ v10 = .int .i64 row ∧ row ≤ R ∧ (0 ≤ col ∧ col < (cn : Int)) ∧ (-1 ≤ side ∧ side ≤ 1) ∧ ws.length ≤ row ∧ Aside0 (goC cn gs (R - row) row col side cs = Q) ∧ Aside0 (BoOk (R : Int) (cn : Int) cs) ∧ Aside0 (DrS w0 w wr P #[.int .i64 (R : Int), .int .i64 (cn : Int), .slice (some ⟨g, 0, none⟩) n cap] g n cap v8 ws cs)) (fun _ _ _ v10 _ => R - (intOf v10).toNat)
 case atStart => exact ⟨0, col0, 0, [], l0, rfl, rfl, rfl, Nat.zero_le _, ⟨h0, h1⟩, ⟨by decide, by decide⟩, Nat.le_refl _, HQ0, HBO, HS0⟩
 case round =>
  clear HQ0 HBO HS0 h0 h1
  obtain ⟨row, col, side, ws, cs, rfl, rfl, rfl, hrow, ⟨h0, h1⟩, hsd, hws, HQ, HBO, HS⟩ := hrel
  obtain ⟨Aw, cw, ew⟩ := Kd.R_slice HS.out.wy
  subst ew
  have p0 : wr.cell? ⟨w.heap.size, 0, none⟩ = some (.int .i64 (R : Int)) := (blk_cell HS.out.bA 0).trans rfl
  have hcsl := bo_nat HBO.out
  have hcl : cs.length = n := (Kd.R_reads' HS.out.ro).1.symm
  by_cases hlt : row < R
  ·have p1 : wr.cell? ⟨w.heap.size, 1, none⟩ = some (.int .i64 (cn : Int)) := (blk_cell HS.out.bA 1).trans rfl
   have hwat := wrap_at hlt hR10 hc9 h0 h1
   obtain ⟨i, hi⟩ : ∃ i, i = row * cn + col.toNat := ⟨_, rfl⟩
   rw [← hi] at hwat
   obtain ⟨hwa, hwl⟩ := hwat
   have hil : i < n := by rw [← hcl, hcsl]; exact hwl
   obtain ⟨d, hd⟩ : ∃ d, R - row = d + 1 := ⟨R - row - 1, by clear hwa; omega⟩
   have hd2 : d = R - (row + 1) := by clear hwa; omega
   have hq := HQ.out
   rw [hd, goC] at hq
   simp only at hq
   rw [← hi] at hq
   obtain ⟨x, hx⟩ : ∃ x_, x_ = cs.getD i ⟨0, 0⟩ := ⟨_, rfl⟩
   have hok : CellOk x.f0 x.f1 := by rw [hx]; exact getD_ok HBO.out.2.2.2 i
   have hlo := goesC_lo hok hsd
   rw [← hx] at hq
   have HPS : Aside0 (passC gs cs i = if x.f0 = 3 then cs.set i (turnC x) else if x.f0 = 6 then turnAll gs (rd gs (i : Int)) 0 cs else cs) := ⟨by unfold passC; simp only [← hx]⟩
   have HTU : Aside0 (impl_turnGroup.f 0 (R : Int) (cn : Int) cs gs (i : Int) = some (turnAll gs (rd gs (i : Int)) 0 cs)) := ⟨by unfold impl_turnGroup.f; rw [if_pos ⟨⟨by rw [hcl]; exact Nat.le_trans hn90 (by decide), HBO.out.2.2.2⟩, HGL.out.trans hcsl.symm, Int.natCast_nonneg i, by rw [hcl]; exact Int.ofNat_lt.2 hil⟩]⟩
   obtain ⟨KG, hKG⟩ := goesTo x side hok hsd
   have HOK := Aside0.mk hok
   have HD := Aside0.mk hd2
   have HXX := Aside0.mk hx
   have hw17 : ws.length ≤ 10 := by clear hwa; omega
   obtain ⟨c0, c1_, fz0, fz1⟩ := cellGet HS.out.ro i hil
   rw [← hx] at c0 c1_
   obtain ⟨kx, sx⟩ := x
   replace HOK : Aside0 (CellOk kx sx) := HOK
   simp only at hq c0 c1_ HPS
   have HGT : Aside0 (impl_GoesTo.f KG kx sx side = some (if kx = 5 then (0, false) else (goesC ⟨kx, sx⟩ side, true))) := ⟨hKG KG (Nat.le_refl _)⟩
   obtain ⟨gx, hgx⟩ : ∃ gx, gx = goesC ⟨kx, sx⟩ side := ⟨_, rfl⟩
   rw [← hgx] at hq hlo HGT
   have ew2 : IntKind.i64.wrap (col + gx) = col + gx := IntWalk.i64_in _ (by clear hwa; omega)
   have ew3 : IntKind.i64.wrap (-gx) = -gx := IntWalk.i64_in _ (by clear hwa ew2; omega)
   have ew5 := wrap_turn HOK.out
   have ev1 : IntKind.i64.wrap (IntKind.i64.wrap ((row : Int) * (cn : Int)) + col) = (i : Int) := by rw [i64_w, i64_w]; exact hwa
   have ev2 := (i64_w _).symm.trans ew2
   have ev3 := (i64_w _).symm.trans ew3
   have ev5 := (i64_w _).symm.trans ew5
   have z2 : wr.cell? ⟨w.heap.size, 2, none⟩ = some (.slice (some ⟨g, 0, none⟩) n cap) := (blk_cell HS.out.bA 2).trans rfl
   have HBP : Aside0 (BoOk (R : Int) (cn : Int) (passC gs cs i)) := ⟨passC_bo HBO.out⟩
   clear hok hd hd2 hi hx hgx hwl HQ hKG hcsl c0 c1_ fz0 fz1 p1 p0 z2
   skip
   have p0 : wr.cell? ⟨w.heap.size, 0, none⟩ = some (.int .i64 (R : Int)) := (blk_cell HS.out.bA 0).trans rfl
   have p1 : wr.cell? ⟨w.heap.size, 1, none⟩ = some (.int .i64 (cn : Int)) := (blk_cell HS.out.bA 1).trans rfl
   by_cases h5 : kx = 5
   ·subst h5
    rw [if_pos rfl] at hq HGT
    subst hq
    as_aux_lemma =>
     go_wp2_with (first
      | ((with_reducible refine gate_builtin (b := .append) (xs := #[.tmp 28, .tmp 30]) rfl ?_); at_builtin; refine Kd.R_append (Kd.int .i64) (w0 := w0) w0.heap.size rfl (.tmp 28) (.tmp 30) 39 3 (.int .i64 0) 8 rfl Try.underlying39 info3 rfl (by decide) (by omega) (.slice Aw ws.length cw) ws (i : Int) [.int .i64 (i : Int)] (fun k_ => k_ ≠ g) (fun _ => False) rfl rfl ?aP (fun _ hk => hk.elim) ?aF ?aO ?aB ?aS ?aL ?_; (case aP => exact rfl); (case aF => exact (fun k_ hk e_ => by have h1_ := Kd.R_lt HS.out.ro g rfl; omega)); (case aO => exact HS.out.wy); (case aB => exact HS.out.be); (case aS => exact HS.out.be.size); (case aL => omega); intro v9 w9 hS hb hg_ hat; have HS9 := Aside0.mk (HS.out.app hS hb hg_ hat); obtain ⟨Aw9, cw9, ew9⟩ := Kd.R_slice HS9.out.wy; rw [List.length_append, List.length_singleton] at ew9; subst ew9; have z2 : w9.cell? ⟨w.heap.size, 2, none⟩ = some (.slice (some ⟨g, 0, none⟩) n cap) := (blk_cell HS9.out.bA 2).trans rfl; obtain ⟨c0, c1_, fz0, fz1⟩ := cellGet HS9.out.ro i hil; rw [← HXX.out] at c0 c1_; simp only at c0 c1_; have HS9L : Aside0 (g < w9.heap.size) := ⟨Kd.R_lt HS9.out.ro g rfl⟩; clear hS hb hg_ hat HS p0 p1 fz0 fz1)
      | (go_at_call 95; (with_reducible refine (impl_GoesTo.calls KG _ _ _ 0 false _ HGT.out).mono ?_); rintro e w12 ⟨rfl, hb⟩; have HS12 := Aside0.mk ((HS9.out.below (below_alloc (Below.refl _ _) (.cells #[.int .i64 5, .int .i64 sx] 71))).below hb); have BX := blk_below (blk_new w9 (.cells #[.int .i64 5, .int .i64 sx] 71)) hb; have x0 := (blk_cell BX 0).trans rfl; have x1 := (blk_cell BX 1).trans rfl; have z2 : w12.cell? ⟨w.heap.size, 2, none⟩ = some (.slice (some ⟨g, 0, none⟩) n cap) := (blk_cell HS12.out.bA 2).trans rfl; have z1 : w12.cell? ⟨w.heap.size, 1, none⟩ = some (.int .i64 (cn : Int)) := (blk_cell HS12.out.bA 1).trans rfl; have z0 : w12.cell? ⟨w.heap.size, 0, none⟩ = some (.int .i64 (R : Int)) := (blk_cell HS12.out.bA 0).trans rfl; have s0 := (blk_cell HS12.out.bF 0).trans rfl; have s1 := (blk_cell HS12.out.bF 1).trans rfl; have s2 := (blk_cell HS12.out.bF 2).trans rfl; have f0 := blk_frozen HS12.out.bF 0; have f1 := blk_frozen HS12.out.bF 1; have f2 := blk_frozen HS12.out.bF 2; clear hb HS9 c0 c1_)
      | fail)
     have G6 := blk_put (cs' := #[.int .i64 2, .int .i64 (row : Int), .int .i64 col]) (blk_put (cs' := #[.int .i64 2, .int .i64 (row : Int), .int .i64 0]) (blk_put (cs' := #[.int .i64 2, .int .i64 0, .int .i64 0]) HS12.out.bF 0 (.int .i64 2) rfl) 1 (.int .i64 (row : Int)) rfl) 2 (.int .i64 col) rfl
     have O6 := Kd.R_set (Kd.R_set (Kd.R_set HS12.out.ro HS12.out.bF (by decide) 0 (.int .i64 2)) (blk_set HS12.out.bF 0 (.int .i64 2)) (by decide) 1 (.int .i64 (row : Int))) (blk_set (blk_set HS12.out.bF 0 (.int .i64 2)) 1 (.int .i64 (row : Int))) (by decide) 2 (.int .i64 col)
     have hl6 : w0.heap.size ≤ w.heap.size + 1 := by have h1_ := HS12.out.lt; have h2_ := Kd.R_base HS12.out.ro g rfl; omega
     have Z6 := below_set (j := 2) (v := .int .i64 col) (below_set (j := 1) (v := .int .i64 (row : Int)) (below_set (j := 0) (v := .int .i64 2) HS12.out.be hl6) hl6) hl6
     have K6 := ((HS12.out.kp.setCell (p := ⟨w.heap.size + 1, 0, none⟩) (.inr (Nat.le_add_right _ 1)) (.int .i64 2)).setCell (p := ⟨w.heap.size + 1, 1, none⟩) (.inr (Nat.le_add_right _ 1)) (.int .i64 (row : Int))).setCell (p := ⟨w.heap.size + 1, 2, none⟩) (.inr (Nat.le_add_right _ 1)) (.int .i64 col)
     have e0 := (blk_cell G6 0).trans rfl
     have e1 := (blk_cell G6 1).trans rfl
     have e2 := (blk_cell G6 2).trans rfl
     exact bodyPost_ret (v := .tuple #[.agg #[.int .i64 2, .int .i64 (row : Int), .int .i64 col], _]) (by simp [results, Try.results76, go_sem, e0, e1, e2]; rfl) rfl ⟨_, rfl, O6, Z6, K6⟩
   rw [if_neg h5] at hq HGT
   have b5 : (kx == 5) = false := beq_false_of_ne h5
   go_upto_if 51 with (first
    | ((with_reducible refine gate_builtin (b := .append) (xs := #[.tmp 28, .tmp 30]) rfl ?_); at_builtin; refine Kd.R_append (Kd.int .i64) (w0 := w0) w0.heap.size rfl (.tmp 28) (.tmp 30) 39 3 (.int .i64 0) 8 rfl Try.underlying39 info3 rfl (by decide) (by omega) (.slice Aw ws.length cw) ws (i : Int) [.int .i64 (i : Int)] (fun k_ => k_ ≠ g) (fun _ => False) rfl rfl ?aP (fun _ hk => hk.elim) ?aF ?aO ?aB ?aS ?aL ?_; (case aP => exact rfl); (case aF => exact (fun k_ hk e_ => by have h1_ := Kd.R_lt HS.out.ro g rfl; omega)); (case aO => exact HS.out.wy); (case aB => exact HS.out.be); (case aS => exact HS.out.be.size); (case aL => omega); intro v9 w9 hS hb hg_ hat; have HS9 := Aside0.mk (HS.out.app hS hb hg_ hat); obtain ⟨Aw9, cw9, ew9⟩ := Kd.R_slice HS9.out.wy; rw [List.length_append, List.length_singleton] at ew9; subst ew9; have z2 : w9.cell? ⟨w.heap.size, 2, none⟩ = some (.slice (some ⟨g, 0, none⟩) n cap) := (blk_cell HS9.out.bA 2).trans rfl; obtain ⟨c0, c1_, fz0, fz1⟩ := cellGet HS9.out.ro i hil; rw [← HXX.out] at c0 c1_; simp only at c0 c1_; have HS9L : Aside0 (g < w9.heap.size) := ⟨Kd.R_lt HS9.out.ro g rfl⟩; clear hS hb hg_ hat HS p0 p1 fz0 fz1)
    | (go_at_call 95; (with_reducible refine (impl_GoesTo.calls KG _ _ _ gx true _ HGT.out).mono ?_); rintro e w12 ⟨rfl, hb⟩; have HS12 := Aside0.mk ((HS9.out.below (below_alloc (Below.refl _ _) (.cells #[.int .i64 kx, .int .i64 sx] 71))).below hb); have BX := blk_below (blk_new w9 (.cells #[.int .i64 kx, .int .i64 sx] 71)) hb; have x0 := (blk_cell BX 0).trans rfl; have x1 := (blk_cell BX 1).trans rfl; have z2 : w12.cell? ⟨w.heap.size, 2, none⟩ = some (.slice (some ⟨g, 0, none⟩) n cap) := (blk_cell HS12.out.bA 2).trans rfl; have z1 : w12.cell? ⟨w.heap.size, 1, none⟩ = some (.int .i64 (cn : Int)) := (blk_cell HS12.out.bA 1).trans rfl; have z0 : w12.cell? ⟨w.heap.size, 0, none⟩ = some (.int .i64 (R : Int)) := (blk_cell HS12.out.bA 0).trans rfl; have BXA := Aside0.mk BX; clear BX; clear hb HS9 c0 c1_)
    | fail)
   go_cut [10, 36, 38, 50, 51] (fun v10 v36 v38 v50 v51 wc => v10 = .int .i64 (row : Int) ∧ Aside0 (DrS w0 w wc P #[.int .i64 (R : Int), .int .i64 (cn : Int), .slice (some ⟨g, 0, none⟩) n cap] g n cap (.slice Aw9 (ws.length + 1) cw9) (ws ++ [(i : Int)]) (if kx = 3 then cs.set i ⟨3, 1 - sx⟩ else cs)) ∧ Aside0 (wc.heap[w9.heap.size]? = some (.cells #[.int .i64 kx, .int .i64 sx] 71 (0, 0))))
   case first =>
    by_cases h3 : kx = 3
    ·subst h3
     obtain ⟨y0, y1, gz0, gz1⟩ := cellGet HS12.out.ro i hil
     rw [← HXX.out] at y0 y1
     simp only at y0 y1
     have HSX := HS12.out.put1 i hil (1 - sx)
     rw [← HXX.out] at HSX
     simp only at HSX
     have HSY := Aside0.mk HSX
     have ngx : w9.heap.size ≠ g := by have h1_ := HS9L.out; omega
     have BXY := Aside0.mk (blk_far BXA.out (p := ⟨g, i * 2 + 1, none⟩) ngx (.int .i64 (1 - sx)))
     clear HSX ngx
     go_wp2
     go_meet
     case rel => exact ⟨rfl, ⟨by first | (rw [if_pos rfl]; exact HSY.out) | (simp only [if_true]; exact HSY.out)⟩, BXY⟩
    ·have b3 : (kx == 3) = false := beq_false_of_ne h3
     go_wp2
     go_meet
     case rel => exact ⟨rfl, ⟨by rw [if_neg h3]; exact HS12.out⟩, BXA⟩
   case rest =>
    clear HS12 BXA x0 x1 z0 z1 z2
    obtain ⟨rfl, HS13, BX13⟩ := hcut
    have x0 := (blk_cell BX13.out 0).trans rfl
    have x1 := (blk_cell BX13.out 1).trans rfl
    generalize wc = w13 at HS13 BX13 x0 x1 ⊢
    have z0 : w13.cell? ⟨w.heap.size, 0, none⟩ = some (.int .i64 (R : Int)) := (blk_cell HS13.out.bA 0).trans rfl
    have z1 : w13.cell? ⟨w.heap.size, 1, none⟩ = some (.int .i64 (cn : Int)) := (blk_cell HS13.out.bA 1).trans rfl
    have z2 : w13.cell? ⟨w.heap.size, 2, none⟩ = some (.slice (some ⟨g, 0, none⟩) n cap) := (blk_cell HS13.out.bA 2).trans rfl
    go_upto_if 62 with fail
    go_cut [10, 61, 62] (fun v10 v61 v62 wc => v10 = .int .i64 (row : Int) ∧ Aside0 (DrS w0 w wc P #[.int .i64 (R : Int), .int .i64 (cn : Int), .slice (some ⟨g, 0, none⟩) n cap] g n cap (.slice Aw9 (ws.length + 1) cw9) (ws ++ [(i : Int)]) (passC gs cs i)))
    case first =>
     by_cases h6 : kx = 6
     ·subst h6
      rw [if_neg (show ¬ ((6 : Int) = 3) by decide)] at HS13
      have HPQ : Aside0 (passC gs cs i = turnAll gs (rd gs (i : Int)) 0 cs) := ⟨by rw [HPS.out]; rfl⟩
      have hrt := Kd.R_mono (ok' := fun k_ => k_ = g) (Kd.R_tight rfl HS13.out.ro) (fun k_ hk_ => by have h1_ : some k_ = some g := hk_; injection h1_)
      have HRT := Aside0.mk hrt
      have hct := Kd.C_kept_call (S2 := fun k_ => k_ = g) HG.out HS13.out.kp (fun k_ hk_ => .inl (by rw [hk_]; exact HS13.out.ro.1 g rfl))
      have HCT := Aside0.mk hct
      clear hrt hct
      go_wp2_with (first
       | (go_at_call 96; (with_reducible refine (impl_turnGroup.calls 0 _ _ (fun k_ => k_ = g) _ cs _ _ gs (i : Int) _ w0 _ HS13.out.be HRT.out HCT.out HGC.out HTU.out).mono ?_); rintro e w14 ⟨rfl, hR, hb, hk⟩; have HS14 := Aside0.mk (HS13.out.pass hR hb hk); clear hR hb hk HRT HCT)
       | fail)
      go_meet
      case rel => exact ⟨rfl, ⟨by rw [HPQ.out]; exact HS14.out⟩⟩
     ·have b6 : (kx == 6) = false := beq_false_of_ne h6
      have HPQ : Aside0 (passC gs cs i = if kx = 3 then cs.set i ⟨3, 1 - sx⟩ else cs) := ⟨by rw [HPS.out, if_neg h6]; by_cases h3 : kx = 3 <;> simp [h3, turnC]⟩
      go_wp2
      go_meet
      case rel => exact ⟨rfl, ⟨by rw [HPQ.out]; exact HS13.out⟩⟩
    case rest =>
     clear HS13 BX13 x0 x1 z0 z1 z2
     obtain ⟨rfl, HS15⟩ := hcut
     generalize wc = w15 at HS15 ⊢
     have z0 : w15.cell? ⟨w.heap.size, 0, none⟩ = some (.int .i64 (R : Int)) := (blk_cell HS15.out.bA 0).trans rfl
     have z1 : w15.cell? ⟨w.heap.size, 1, none⟩ = some (.int .i64 (cn : Int)) := (blk_cell HS15.out.bA 1).trans rfl
     clear hwa
     by_cases hn0 : col + gx < 0
     ·rw [if_neg (by omega)] at hq
      have dn0 : decide (col + gx < 0) = true := decide_eq_true hn0
      subst hq
      have s0 := (blk_cell HS15.out.bF 0).trans rfl; have s1 := (blk_cell HS15.out.bF 1).trans rfl; have s2 := (blk_cell HS15.out.bF 2).trans rfl; have f0 := blk_frozen HS15.out.bF 0; have f1 := blk_frozen HS15.out.bF 1; have f2 := blk_frozen HS15.out.bF 2
      go_wp2
      have G6 := blk_put (cs' := #[.int .i64 3, .int .i64 (row : Int), .int .i64 (col + gx)]) (blk_put (cs' := #[.int .i64 3, .int .i64 (row : Int), .int .i64 0]) (blk_put (cs' := #[.int .i64 3, .int .i64 0, .int .i64 0]) HS15.out.bF 0 (.int .i64 3) rfl) 1 (.int .i64 (row : Int)) rfl) 2 (.int .i64 (col + gx)) rfl
      have O6 := Kd.R_set (Kd.R_set (Kd.R_set HS15.out.ro HS15.out.bF (by decide) 0 (.int .i64 3)) (blk_set HS15.out.bF 0 (.int .i64 3)) (by decide) 1 (.int .i64 (row : Int))) (blk_set (blk_set HS15.out.bF 0 (.int .i64 3)) 1 (.int .i64 (row : Int))) (by decide) 2 (.int .i64 (col + gx))
      have hl6 : w0.heap.size ≤ w.heap.size + 1 := by have h1_ := HS15.out.lt; have h2_ := Kd.R_base HS15.out.ro g rfl; omega
      have Z6 := below_set (j := 2) (v := .int .i64 (col + gx)) (below_set (j := 1) (v := .int .i64 (row : Int)) (below_set (j := 0) (v := .int .i64 3) HS15.out.be hl6) hl6) hl6
      have K6 := ((HS15.out.kp.setCell (p := ⟨w.heap.size + 1, 0, none⟩) (.inr (Nat.le_add_right _ 1)) (.int .i64 3)).setCell (p := ⟨w.heap.size + 1, 1, none⟩) (.inr (Nat.le_add_right _ 1)) (.int .i64 (row : Int))).setCell (p := ⟨w.heap.size + 1, 2, none⟩) (.inr (Nat.le_add_right _ 1)) (.int .i64 (col + gx))
      have e0 := (blk_cell G6 0).trans rfl
      have e1 := (blk_cell G6 1).trans rfl
      have e2 := (blk_cell G6 2).trans rfl
      exact bodyPost_ret (v := .tuple #[.agg #[.int .i64 3, .int .i64 (row : Int), .int .i64 (col + gx)], _]) (by simp [results, Try.results76, go_sem, e0, e1, e2]; rfl) rfl ⟨_, rfl, O6, Z6, K6⟩
     have dn0 : decide (col + gx < 0) = false := decide_eq_false hn0
     by_cases hn1 : col + gx ≥ (cn : Int)
     ·rw [if_neg (by omega)] at hq
      have dn1 : decide ((cn : Int) ≤ col + gx) = true := decide_eq_true hn1
      subst hq
      have s0 := (blk_cell HS15.out.bF 0).trans rfl; have s1 := (blk_cell HS15.out.bF 1).trans rfl; have s2 := (blk_cell HS15.out.bF 2).trans rfl; have f0 := blk_frozen HS15.out.bF 0; have f1 := blk_frozen HS15.out.bF 1; have f2 := blk_frozen HS15.out.bF 2
      go_wp2
      have G6 := blk_put (cs' := #[.int .i64 3, .int .i64 (row : Int), .int .i64 (col + gx)]) (blk_put (cs' := #[.int .i64 3, .int .i64 (row : Int), .int .i64 0]) (blk_put (cs' := #[.int .i64 3, .int .i64 0, .int .i64 0]) HS15.out.bF 0 (.int .i64 3) rfl) 1 (.int .i64 (row : Int)) rfl) 2 (.int .i64 (col + gx)) rfl
      have O6 := Kd.R_set (Kd.R_set (Kd.R_set HS15.out.ro HS15.out.bF (by decide) 0 (.int .i64 3)) (blk_set HS15.out.bF 0 (.int .i64 3)) (by decide) 1 (.int .i64 (row : Int))) (blk_set (blk_set HS15.out.bF 0 (.int .i64 3)) 1 (.int .i64 (row : Int))) (by decide) 2 (.int .i64 (col + gx))
      have hl6 : w0.heap.size ≤ w.heap.size + 1 := by have h1_ := HS15.out.lt; have h2_ := Kd.R_base HS15.out.ro g rfl; omega
      have Z6 := below_set (j := 2) (v := .int .i64 (col + gx)) (below_set (j := 1) (v := .int .i64 (row : Int)) (below_set (j := 0) (v := .int .i64 3) HS15.out.be hl6) hl6) hl6
      have K6 := ((HS15.out.kp.setCell (p := ⟨w.heap.size + 1, 0, none⟩) (.inr (Nat.le_add_right _ 1)) (.int .i64 3)).setCell (p := ⟨w.heap.size + 1, 1, none⟩) (.inr (Nat.le_add_right _ 1)) (.int .i64 (row : Int))).setCell (p := ⟨w.heap.size + 1, 2, none⟩) (.inr (Nat.le_add_right _ 1)) (.int .i64 (col + gx))
      have e0 := (blk_cell G6 0).trans rfl
      have e1 := (blk_cell G6 1).trans rfl
      have e2 := (blk_cell G6 2).trans rfl
      exact bodyPost_ret (v := .tuple #[.agg #[.int .i64 3, .int .i64 (row : Int), .int .i64 (col + gx)], _]) (by simp [results, Try.results76, go_sem, e0, e1, e2]; rfl) rfl ⟨_, rfl, O6, Z6, K6⟩
     have dn1 : decide ((cn : Int) ≤ col + gx) = false := decide_eq_false hn1
     rw [if_pos (by omega)] at hq
     have HQ2 := Aside0.mk hq
     rw [HD.out] at HQ2
     clear hq
     go_wp2
     go_roundw
     case rel => first | exact ⟨row + 1, col + gx, -gx, _, _, by go_num, by go_num, by go_num, by omega, ⟨by omega, by omega⟩, ⟨by omega, by omega⟩, by rw [List.length_append, List.length_singleton]; omega, HQ2, HBP, HS15⟩ | ((repeat apply Exists.intro); exact ⟨⟨row + 1, col + gx, -gx, _, _, by go_num, by go_num, by go_num, by omega, ⟨by omega, by omega⟩, ⟨by omega, by omega⟩, by rw [List.length_append, List.length_singleton]; omega, HQ2, HBP, HS15⟩, rfl⟩)
     case measure => simp [intOf]; omega
  ·obtain rfl : R = row := by omega
   have hq := HQ.out
   rw [Nat.sub_self, goC] at hq
   subst hq
   have s0 := (blk_cell HS.out.bF 0).trans rfl
   have s1 := (blk_cell HS.out.bF 1).trans rfl
   have s2 := (blk_cell HS.out.bF 2).trans rfl
   have f0 := blk_frozen HS.out.bF 0
   have f1 := blk_frozen HS.out.bF 1
   have f2 := blk_frozen HS.out.bF 2
   go_wp2
   have G6 := blk_put (cs' := #[.int .i64 1, .int .i64 (R : Int), .int .i64 col]) (blk_put (cs' := #[.int .i64 1, .int .i64 (R : Int), .int .i64 0]) (blk_put (cs' := #[.int .i64 1, .int .i64 0, .int .i64 0]) HS.out.bF 0 (.int .i64 1) rfl) 1 (.int .i64 (R : Int)) rfl) 2 (.int .i64 col) rfl
   have O6 := Kd.R_set (Kd.R_set (Kd.R_set HS.out.ro HS.out.bF (by decide) 0 (.int .i64 1)) (blk_set HS.out.bF 0 (.int .i64 1)) (by decide) 1 (.int .i64 (R : Int))) (blk_set (blk_set HS.out.bF 0 (.int .i64 1)) 1 (.int .i64 (R : Int))) (by decide) 2 (.int .i64 col)
   have hl6 : w0.heap.size ≤ w.heap.size + 1 := by have h1_ := HS.out.lt; have h2_ := Kd.R_base HS.out.ro g rfl; omega
   have Z6 := below_set (j := 2) (v := .int .i64 col) (below_set (j := 1) (v := .int .i64 (R : Int)) (below_set (j := 0) (v := .int .i64 1) HS.out.be hl6) hl6) hl6
   have K6 := ((HS.out.kp.setCell (p := ⟨w.heap.size + 1, 0, none⟩) (.inr (Nat.le_add_right _ 1)) (.int .i64 1)).setCell (p := ⟨w.heap.size + 1, 1, none⟩) (.inr (Nat.le_add_right _ 1)) (.int .i64 (R : Int))).setCell (p := ⟨w.heap.size + 1, 2, none⟩) (.inr (Nat.le_add_right _ 1)) (.int .i64 col)
   have e0 := (blk_cell G6 0).trans rfl
   have e1 := (blk_cell G6 1).trans rfl
   have e2 := (blk_cell G6 2).trans rfl
   exact bodyPost_ret (v := .tuple #[.agg #[.int .i64 1, .int .i64 (R : Int), .int .i64 col], _]) (by simp [results, Try.results76, go_sem, e0, e1, e2]; rfl) rfl ⟨_, rfl, O6, Z6, K6⟩
end Go.Proofs.Ytcilbmbgdcepgaa.P
