/- The walk of impl.advance: one step of a program on counters, in place: the state lies in a box (block g), its values in a row of the call's own (block g2). -/
import Derived.Test.YtbcphkblieeemaaZFnExactIsEndless0
import Derived.Test.YtbcphkblieeemaaYFnExactIsEndlessACt
import Derived.Test.YtbcphkblieeemaaOwnW
namespace Go.Proofs.Ytbcphkblieeemaa.P
open Go.RowKit Go.Proofs.YtbcphkblieeemaaW.PrintWords Go.Proofs.YtbcphkblieeemaaW.PrintLast Go.Proofs.YtbcphkblieeemaaW.PrintMore Go.Proofs.Ytbcphkblieeemaa.Own Go.Proofs.Ytbcphkblieeemaa.A
set_option linter.unusedVariables false
set_option linter.unusedSimpArgs false
/-- One step: the line, the values, whether it succeeds. -/
def stepL (l : List S55) (line : Int) (vs : List Int) : Int × List Int × Bool :=
  if line = l.length ∨ (rd_T55 l line).f0 = 3 then (line, vs, true)
  else if (rd_T55 l line).f0 = 0 then (if rd vs (rd_T55 l line).f1 = 10000 then (line, vs, false) else (line + 1, vs.set (rd_T55 l line).f1.toNat (rd vs (rd_T55 l line).f1 + 1), true))
  else if (rd_T55 l line).f0 = 1 then (if rd vs (rd_T55 l line).f1 = 0 then ((rd_T55 l line).f2, vs, true) else (line + 1, vs.set (rd_T55 l line).f1.toNat (rd vs (rd_T55 l line).f1 - 1), true))
  else ((rd_T55 l line).f2, vs, true)
/-- Behind a step. -/
structure Adv (w0 w w' : World) (P : Nat → Prop) (g g2 cap n : Nat) (r : Int × List Int × Bool) : Prop where
  box : w'.heap[g]? = some (.cells #[.int .i64 r.1, .slice (some ⟨g2, 0, none⟩) n cap] 31 (0, 0))
  row : Kd.R (Kd.int .i64) 3 w' w0.heap.size P (.slice (some ⟨g2, 0, none⟩) n cap) r.2.1
  be : Below w0.heap.size w0 w'
  keep : ∀ k, k < w.heap.size → k ≠ g → k ≠ g2 → w'.heap[k]? = w.heap[k]?
section
variable {w0 w W W1 : World} {P : Nat → Prop} {g g2 cap n : Nat} {a : Int} {vs : List Int} {b b' : Bool}
theorem Adv.below (h : Adv w0 w W P g g2 cap n (a, vs, b)) (hw : w.heap.size ≤ W.heap.size) (hb : Below W.heap.size W W1) : Adv w0 w W1 P g g2 cap n (a, vs, b') :=
  ⟨blk_below h.box hb, Kd.R_below h.row hb, below_step h.be hb, fun k hk h1 h2 => (hb.block k (Nat.lt_of_lt_of_le hk hw)).trans (h.keep k hk h1 h2)⟩
theorem Adv.line (h : Adv w0 w W P g g2 cap n (a, vs, b)) (hg : w0.heap.size ≤ g) (a' : Int) : Adv w0 w (W.setCell ⟨g, 0, none⟩ (.int .i64 a')) P g g2 cap n (a', vs, b') :=
  ⟨blk_put (cs := #[.int .i64 a, .slice (some ⟨g2, 0, none⟩) n cap]) h.box 0 _ rfl, Kd.R_set h.row h.box (by decide) 0 _, below_set h.be hg, fun k hk h1 h2 => (Below.heap_setCell W ⟨g, 0, none⟩ _ k h1).trans (h.keep k hk h1 h2)⟩
theorem Adv.val (h : Adv w0 w W P g g2 cap n (a, vs, b)) (ci x : Int) : Adv w0 w (W.setCell ⟨g2, ci.toNat, none⟩ (.int .i64 x)) P g g2 cap n (a, vs.set ci.toNat x, b') := by
  have hne : g ≠ g2 := fun e => Kd.R_ne h.row h.box (by decide) (by rw [e]; rfl)
  exact ⟨blk_far h.box hne _, Kd.R_putn h.row ci x, below_set h.be (Kd.R_base h.row g2 rfl), fun k hk h1 h2 => (Below.heap_setCell W ⟨g2, ci.toNat, none⟩ _ k h2).trans (h.keep k hk h1 h2)⟩
end
theorem rd_in {l : List Int} {i : Int} (h0 : 0 ≤ i) (h1 : i < l.length) : rd l i ∈ l := by
  have h : i.toNat < l.length := by omega
  rw [show rd l i = l[i.toNat] by simp [rd, h]]
  exact List.getElem_mem h
set_option maxHeartbeats 2000000 in
set_option maxRecDepth 100000 in
theorem advance_own (P : Nat → Prop) (g : Nat) (ad : Addr) (c : Nat) (l : List S55) (line : Int) (g2 cap : Nat) (vs : List Int) (w0 w : World)
    (hC : Kd.C k55 w0 (some ad) l.length l) (hc : l.length ≤ c) (hB : Below w0.heap.size w0 w) (hbox : w.heap[g]? = some (.cells #[.int .i64 line, .slice (some ⟨g2, 0, none⟩) vs.length cap] 31 (0, 0))) (hg : w0.heap.size ≤ g)
    (hR : Kd.R (Kd.int .i64) 3 w w0.heap.size P (.slice (some ⟨g2, 0, none⟩) vs.length cap) vs) (hok : StOk l line vs) :
    Calls Try.prog 46 #[.slice (some ad) l.length c, .pointer (some ⟨g, 0, none⟩)] w fun e w' => e = .returned (.bool (stepL l line vs).2.2) ∧ Adv w0 w w' P g g2 cap vs.length (stepL l line vs) := by
  have hu := Try.underlying31
  have hn := hok.2.1
  have hi := hok.1
  have z0 : w.cell? ⟨g, 0, none⟩ = some (.int .i64 line) := (blk_cell hbox 0).trans rfl
  have z1 : w.cell? ⟨g, 1, none⟩ = some (.slice (some ⟨g2, 0, none⟩) vs.length cap) := (blk_cell hbox 1).trans rfl
  obtain ⟨kd, hkd⟩ : ∃ kd, kd = (rd_T55 l line).f0 := ⟨_, rfl⟩
  obtain ⟨ci, hci⟩ : ∃ ci, ci = (rd_T55 l line).f1 := ⟨_, rfl⟩
  obtain ⟨tg, htg⟩ : ∃ tg, tg = (rd_T55 l line).f2 := ⟨_, rfl⟩
  have HC := Aside0.mk hC
  have HB := Aside0.mk hB
  have BK := Aside0.mk hbox
  have HR := Aside0.mk hR
  have HS : Aside0 (stepL l line vs = if line = l.length ∨ kd = 3 then (line, vs, true) else if kd = 0 then (if rd vs ci = 10000 then (line, vs, false) else (line + 1, vs.set ci.toNat (rd vs ci + 1), true)) else if kd = 1 then (if rd vs ci = 0 then (tg, vs, true) else (line + 1, vs.set ci.toNat (rd vs ci - 1), true)) else (tg, vs, true)) := ⟨by rw [hkd, hci, htg]; rfl⟩
  by_cases hh : line = l.length ∨ kd = 3
  · have HH : Aside0 (impl_hasHalted.f l line vs = some true) := ⟨by
      unfold impl_hasHalted.f
      by_cases h1 : line ≥ (l.length : Int)
      · rw [if_pos h1]
      · rw [if_neg h1, if_pos (by omega), if_pos (by omega), ← hkd]
        rcases hh with h2 | h2
        · omega
        · rw [h2]; rfl⟩
    have hS := HS.out
    rw [if_pos hh] at hS
    rw [hS]
    clear hS HS hC hB hbox hR hkd hci htg hh hok hi
    go_enter Try.func46, Try.ntmps46
    go_wp2_with fail
    refine (impl_hasHalted.calls _ _ l line _ _ vs true _ (Kd.C_below HC.out HB.out) hc (Kd.R_reads' HR.out).2.2 (Kd.R_reads' HR.out).2.1 HH.out).mono ?_
    rintro e w1 ⟨rfl, hb⟩
    have HB1 := Aside0.mk hb
    clear hb
    go_wp2_with fail
    go_ret
    exact ⟨rfl, blk_below BK.out HB1.out, Kd.R_below HR.out HB1.out, below_step HB.out HB1.out, fun k hk _ _ => HB1.out.block k hk⟩
  · have hl : line < l.length := by omega
    have hx : OkI l.length vs.length (rd_T55 l line) := hi.1 _ (by
      have : rd_T55 l line = l[line.toNat]'(by omega) := by simp [rd_T55, List.getD_eq_getElem?_getD, show line.toNat < l.length by omega]
      rw [this]; exact List.getElem_mem _)
    obtain ⟨ad_, ea, x0, x1, x2⟩ := at_T55 hC line hn.1 hl
    cases ea
    unfold OkI at hx
    rw [← hkd, ← hci, ← htg] at hx
    rw [← hkd] at x0
    rw [← hci] at x1
    rw [← htg] at x2
    have HH : Aside0 (impl_hasHalted.f l line vs = some false) := ⟨by
      unfold impl_hasHalted.f
      rw [if_neg (by omega), if_pos hn.1, if_pos hl, ← hkd]
      have : ¬ kd = 3 := fun e => hh (.inr e)
      simpa using this⟩
    have hS := HS.out
    rw [if_neg hh] at hS
    have hk3 : kd = 0 ∨ kd = 1 ∨ kd = 2 := by omega
    have h0 := hn.1
    have hc0 : 0 ≤ ci := hx.2.2.1
    have hc1 : ci < (vs.length : Int) := hx.2.2.2.1
    have hvs := hok.2.2
    have hmem : 0 ≤ rd vs ci ∧ rd vs ci ≤ 10000 := hvs _ (rd_in hc0 hc1)
    have hl20 : (l.length : Int) ≤ 20 := by have := hi.2.2.2.2; omega
    clear hkd hci htg hh hi hx HS hn hok hvs hC hB hbox hR
    rcases hk3 with rfl | rfl | rfl
    · rw [if_pos rfl] at hS
      by_cases hM : rd vs ci = 10000
      · rw [if_pos hM] at hS
        rw [hS]
        clear hS
        go_enter Try.func46, Try.ntmps46
        go_wp2_with fail
        refine (impl_hasHalted.calls _ _ l line _ _ vs false _ (Kd.C_below HC.out HB.out) hc (Kd.R_reads' HR.out).2.2 (Kd.R_reads' HR.out).2.1 HH.out).mono ?_
        rintro e w1 ⟨rfl, hb⟩
        have HB1 := Aside0.mk hb
        have BK1 := Aside0.mk (blk_below BK.out hb)
        replace z0 : w1.cell? ⟨g, 0, none⟩ = some (.int .i64 line) := (blk_cell BK1.out 0).trans rfl
        replace z1 : w1.cell? ⟨g, 1, none⟩ = some (.slice (some ⟨g2, 0, none⟩) vs.length cap) := (blk_cell BK1.out 1).trans rfl
        have fz0 := blk_frozen BK1.out 0
        have fz1 := blk_frozen BK1.out 1
        have gl : g < w1.heap.size := blk_lt BK1.out
        replace x0 := ((below_step HB.out HB1.out).cell (World.block_lt_of_cell? w0 _ x0)).trans x0
        replace x1 := ((below_step HB.out HB1.out).cell (World.block_lt_of_cell? w0 _ x1)).trans x1
        replace x2 := ((below_step HB.out HB1.out).cell (World.block_lt_of_cell? w0 _ x2)).trans x2
        have A1 : Adv w0 w w1 P g g2 cap vs.length (line, vs, true) := ⟨BK1.out, Kd.R_below HR.out hb, below_step HB.out hb, fun k hk _ _ => hb.block k hk⟩
        have hws := hb.size
        have AV := Aside0.mk A1
        obtain ⟨y0_, fy0⟩ := Kd.R_celln 0 A1.row ci hc0 hc1
        have y0 : w1.cell? ⟨g2, ci.toNat, none⟩ = some (.int .i64 (rd vs ci)) := y0_
        clear y0_
        have gl2 : g2 < w1.heap.size := Kd.R_lt A1.row g2 rfl
        have gne : g ≠ g2 := fun e => Kd.R_ne A1.row BK1.out (by decide) (by rw [e]; rfl)
        have gne2 : g2 ≠ g := fun e => gne e.symm
        clear hb A1
        rw [hM] at y0
        go_wp2
        go_quiet (fail)
        go_wp2
        go_ret
        exact ⟨rfl, AV.out.below (by simpa using hws) (by repeat (first | with_reducible exact Below.refl _ _ | with_reducible apply below_alloc | with_reducible apply pw_below_drewN | with_reducible apply below_drew1))⟩
      · rw [if_neg hM] at hS
        rw [hS]
        clear hS
        go_enter Try.func46, Try.ntmps46
        go_wp2_with fail
        refine (impl_hasHalted.calls _ _ l line _ _ vs false _ (Kd.C_below HC.out HB.out) hc (Kd.R_reads' HR.out).2.2 (Kd.R_reads' HR.out).2.1 HH.out).mono ?_
        rintro e w1 ⟨rfl, hb⟩
        have HB1 := Aside0.mk hb
        have BK1 := Aside0.mk (blk_below BK.out hb)
        replace z0 : w1.cell? ⟨g, 0, none⟩ = some (.int .i64 line) := (blk_cell BK1.out 0).trans rfl
        replace z1 : w1.cell? ⟨g, 1, none⟩ = some (.slice (some ⟨g2, 0, none⟩) vs.length cap) := (blk_cell BK1.out 1).trans rfl
        have fz0 := blk_frozen BK1.out 0
        have fz1 := blk_frozen BK1.out 1
        have gl : g < w1.heap.size := blk_lt BK1.out
        replace x0 := ((below_step HB.out HB1.out).cell (World.block_lt_of_cell? w0 _ x0)).trans x0
        replace x1 := ((below_step HB.out HB1.out).cell (World.block_lt_of_cell? w0 _ x1)).trans x1
        replace x2 := ((below_step HB.out HB1.out).cell (World.block_lt_of_cell? w0 _ x2)).trans x2
        have A1 : Adv w0 w w1 P g g2 cap vs.length (line, vs, true) := ⟨BK1.out, Kd.R_below HR.out hb, below_step HB.out hb, fun k hk _ _ => hb.block k hk⟩
        have hws := hb.size
        have AV := Aside0.mk A1
        obtain ⟨y0_, fy0⟩ := Kd.R_celln 0 A1.row ci hc0 hc1
        have y0 : w1.cell? ⟨g2, ci.toNat, none⟩ = some (.int .i64 (rd vs ci)) := y0_
        clear y0_
        have gl2 : g2 < w1.heap.size := Kd.R_lt A1.row g2 rfl
        have gne : g ≠ g2 := fun e => Kd.R_ne A1.row BK1.out (by decide) (by rw [e]; rfl)
        have gne2 : g2 ≠ g := fun e => gne e.symm
        clear hb A1
        have d1 : (rd vs ci == 10000) = false := by simpa using hM
        go_wp2
        go_quiet (fail)
        go_wp2
        go_region
        go_wp2
        go_ret
        exact ⟨rfl, ((AV.out.below (b' := true) (by simpa using hws) (by repeat (first | with_reducible exact Below.refl _ _ | with_reducible apply below_alloc | with_reducible apply pw_below_drewN | with_reducible apply below_drew1))).val (b' := true) ci _).line hg _⟩
    · rw [if_neg (by decide), if_pos rfl] at hS
      by_cases hM : rd vs ci = 0
      · rw [if_pos hM] at hS
        rw [hS]
        clear hS
        go_enter Try.func46, Try.ntmps46
        go_wp2_with fail
        refine (impl_hasHalted.calls _ _ l line _ _ vs false _ (Kd.C_below HC.out HB.out) hc (Kd.R_reads' HR.out).2.2 (Kd.R_reads' HR.out).2.1 HH.out).mono ?_
        rintro e w1 ⟨rfl, hb⟩
        have HB1 := Aside0.mk hb
        have BK1 := Aside0.mk (blk_below BK.out hb)
        replace z0 : w1.cell? ⟨g, 0, none⟩ = some (.int .i64 line) := (blk_cell BK1.out 0).trans rfl
        replace z1 : w1.cell? ⟨g, 1, none⟩ = some (.slice (some ⟨g2, 0, none⟩) vs.length cap) := (blk_cell BK1.out 1).trans rfl
        have fz0 := blk_frozen BK1.out 0
        have fz1 := blk_frozen BK1.out 1
        have gl : g < w1.heap.size := blk_lt BK1.out
        replace x0 := ((below_step HB.out HB1.out).cell (World.block_lt_of_cell? w0 _ x0)).trans x0
        replace x1 := ((below_step HB.out HB1.out).cell (World.block_lt_of_cell? w0 _ x1)).trans x1
        replace x2 := ((below_step HB.out HB1.out).cell (World.block_lt_of_cell? w0 _ x2)).trans x2
        have A1 : Adv w0 w w1 P g g2 cap vs.length (line, vs, true) := ⟨BK1.out, Kd.R_below HR.out hb, below_step HB.out hb, fun k hk _ _ => hb.block k hk⟩
        have hws := hb.size
        have AV := Aside0.mk A1
        obtain ⟨y0_, fy0⟩ := Kd.R_celln 0 A1.row ci hc0 hc1
        have y0 : w1.cell? ⟨g2, ci.toNat, none⟩ = some (.int .i64 (rd vs ci)) := y0_
        clear y0_
        have gl2 : g2 < w1.heap.size := Kd.R_lt A1.row g2 rfl
        have gne : g ≠ g2 := fun e => Kd.R_ne A1.row BK1.out (by decide) (by rw [e]; rfl)
        have gne2 : g2 ≠ g := fun e => gne e.symm
        clear hb A1
        rw [hM] at y0
        go_wp2
        go_quiet (fail)
        go_wp2
        go_ret
        exact ⟨rfl, (AV.out.below (b' := true) (by simpa using hws) (by repeat (first | with_reducible exact Below.refl _ _ | with_reducible apply below_alloc | with_reducible apply pw_below_drewN | with_reducible apply below_drew1))).line hg _⟩
      · rw [if_neg hM] at hS
        rw [hS]
        clear hS
        go_enter Try.func46, Try.ntmps46
        go_wp2_with fail
        refine (impl_hasHalted.calls _ _ l line _ _ vs false _ (Kd.C_below HC.out HB.out) hc (Kd.R_reads' HR.out).2.2 (Kd.R_reads' HR.out).2.1 HH.out).mono ?_
        rintro e w1 ⟨rfl, hb⟩
        have HB1 := Aside0.mk hb
        have BK1 := Aside0.mk (blk_below BK.out hb)
        replace z0 : w1.cell? ⟨g, 0, none⟩ = some (.int .i64 line) := (blk_cell BK1.out 0).trans rfl
        replace z1 : w1.cell? ⟨g, 1, none⟩ = some (.slice (some ⟨g2, 0, none⟩) vs.length cap) := (blk_cell BK1.out 1).trans rfl
        have fz0 := blk_frozen BK1.out 0
        have fz1 := blk_frozen BK1.out 1
        have gl : g < w1.heap.size := blk_lt BK1.out
        replace x0 := ((below_step HB.out HB1.out).cell (World.block_lt_of_cell? w0 _ x0)).trans x0
        replace x1 := ((below_step HB.out HB1.out).cell (World.block_lt_of_cell? w0 _ x1)).trans x1
        replace x2 := ((below_step HB.out HB1.out).cell (World.block_lt_of_cell? w0 _ x2)).trans x2
        have A1 : Adv w0 w w1 P g g2 cap vs.length (line, vs, true) := ⟨BK1.out, Kd.R_below HR.out hb, below_step HB.out hb, fun k hk _ _ => hb.block k hk⟩
        have hws := hb.size
        have AV := Aside0.mk A1
        obtain ⟨y0_, fy0⟩ := Kd.R_celln 0 A1.row ci hc0 hc1
        have y0 : w1.cell? ⟨g2, ci.toNat, none⟩ = some (.int .i64 (rd vs ci)) := y0_
        clear y0_
        have gl2 : g2 < w1.heap.size := Kd.R_lt A1.row g2 rfl
        have gne : g ≠ g2 := fun e => Kd.R_ne A1.row BK1.out (by decide) (by rw [e]; rfl)
        have gne2 : g2 ≠ g := fun e => gne e.symm
        clear hb A1
        have d1 : (rd vs ci == 0) = false := by simpa using hM
        go_wp2
        go_quiet (fail)
        go_wp2
        go_region
        go_wp2
        go_ret
        exact ⟨rfl, ((AV.out.below (b' := true) (by simpa using hws) (by repeat (first | with_reducible exact Below.refl _ _ | with_reducible apply below_alloc | with_reducible apply pw_below_drewN | with_reducible apply below_drew1))).val (b' := true) ci _).line hg _⟩
    · rw [if_neg (by decide), if_neg (by decide)] at hS
      rw [hS]
      clear hS
      go_enter Try.func46, Try.ntmps46
      go_wp2_with fail
      refine (impl_hasHalted.calls _ _ l line _ _ vs false _ (Kd.C_below HC.out HB.out) hc (Kd.R_reads' HR.out).2.2 (Kd.R_reads' HR.out).2.1 HH.out).mono ?_
      rintro e w1 ⟨rfl, hb⟩
      have HB1 := Aside0.mk hb
      have BK1 := Aside0.mk (blk_below BK.out hb)
      replace z0 : w1.cell? ⟨g, 0, none⟩ = some (.int .i64 line) := (blk_cell BK1.out 0).trans rfl
      replace z1 : w1.cell? ⟨g, 1, none⟩ = some (.slice (some ⟨g2, 0, none⟩) vs.length cap) := (blk_cell BK1.out 1).trans rfl
      have fz0 := blk_frozen BK1.out 0
      have fz1 := blk_frozen BK1.out 1
      have gl : g < w1.heap.size := blk_lt BK1.out
      replace x0 := ((below_step HB.out HB1.out).cell (World.block_lt_of_cell? w0 _ x0)).trans x0
      replace x1 := ((below_step HB.out HB1.out).cell (World.block_lt_of_cell? w0 _ x1)).trans x1
      replace x2 := ((below_step HB.out HB1.out).cell (World.block_lt_of_cell? w0 _ x2)).trans x2
      have A1 : Adv w0 w w1 P g g2 cap vs.length (line, vs, true) := ⟨BK1.out, Kd.R_below HR.out hb, below_step HB.out hb, fun k hk _ _ => hb.block k hk⟩
      have hws := hb.size
      have AV := Aside0.mk A1
      obtain ⟨y0_, fy0⟩ := Kd.R_celln 0 A1.row ci hc0 hc1
      have y0 : w1.cell? ⟨g2, ci.toNat, none⟩ = some (.int .i64 (rd vs ci)) := y0_
      clear y0_
      have gl2 : g2 < w1.heap.size := Kd.R_lt A1.row g2 rfl
      have gne : g ≠ g2 := fun e => Kd.R_ne A1.row BK1.out (by decide) (by rw [e]; rfl)
      have gne2 : g2 ≠ g := fun e => gne e.symm
      clear hb A1
      go_wp2
      go_ret
      exact ⟨rfl, (AV.out.line hg tg (b' := true)).below (by simpa using hws) (below_alloc (Below.refl _ _) _)⟩
end Go.Proofs.Ytbcphkblieeemaa.P
