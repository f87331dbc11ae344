/- The walk of laws.markAutomaton: the rows of Next and then Final are marked. -/
import Derived.Test.YtadhbepoblllhaaZFnExactFirstWord0
import Derived.Test.YtadhbepoblllhaaYFnExactFirstWordPx36
namespace Go.Proofs.Ytadhbepoblllhaa.P
open Go.RowKit Go.Proofs.YtadhbepoblllhaaW.PrintWords Go.Proofs.YtadhbepoblllhaaW.PrintLast Go.Proofs.YtadhbepoblllhaaW.PrintMore
set_option linter.unusedVariables false
/-! ### laws_markAutomaton: function 18 -/
def laws_markAutomaton.f (k : Nat) (a0_0 : Int) (l0_1 : List (List Int)) (l0_2 : List Int) (a1 : Int) : Option (Int × List (List Int) × List Int) :=
  (laws_markIntSS.f k l0_1 a1).bind fun p => (laws_markIntS.f k l0_2 p.1).bind fun q => some (q.1, p.2, q.2)
theorem laws_markAutomaton.mono : ∀ a0 a1 a2 a3 k, LeO (laws_markAutomaton.f k a0 a1 a2 a3) (laws_markAutomaton.f (k + 1) a0 a1 a2 a3) := by
  intro a0 a1 a2 a3 k
  unfold laws_markAutomaton.f
  exact LeO.bind (laws_markIntSS.mono _ _ _) (fun p => LeO.bind (laws_markIntS.mono _ _ _) (fun _ => LeO.refl _))
set_option maxHeartbeats 2000000 in
set_option maxRecDepth 100000 in
theorem laws_markAutomaton.calls (k : Nat) (a0_0 : Int) (P1 P2 : Nat → Prop) (u1 u2 : Value) (l0_1 : List (List Int)) (l0_2 : List Int) (a1 : Int) (r1 : Int) (r2 : List (List Int)) (r3 : List Int) (w0 w : World) (hB : Below w0.heap.size w0 w)
    (ho0_1 : Kd.S (Kd.slice 3 (Kd.int .i64)) 23 w w0.heap.size P1 u1 l0_1) (ho0_2 : Kd.R (Kd.int .i64) 3 w w0.heap.size P2 u2 l0_2) (hd0 : ∀ k, P1 k → ¬ P2 k) (h : laws_markAutomaton.f k a0_0 l0_1 l0_2 a1 = some (r1, r2, r3)) :
    Calls Try.prog 18 #[.agg #[.int .i64 a0_0, u1, u2], .int .i64 a1] w fun e w' => e = .returned (.int .i64 r1) ∧ Kd.S (Kd.slice 3 (Kd.int .i64)) 23 w' w0.heap.size P1 u1 r2 ∧ Kd.R (Kd.int .i64) 3 w' w0.heap.size P2 u2 r3 ∧ Below w0.heap.size w0 w' ∧ Kept w w' (fun k_ => P1 k_ ∨ P2 k_) := by
  have hu29 := Try.underlying29
  unfold laws_markAutomaton.f at h
  obtain ⟨⟨m1, x1⟩, h1, h⟩ := Option.bind_eq_some_iff.mp h
  obtain ⟨⟨m2, x2⟩, h2, h⟩ := Option.bind_eq_some_iff.mp h
  simp only [Option.some.injEq, Prod.mk.injEq] at h
  obtain ⟨rfl, rfl, rfl⟩ := h
  have H1 := Aside0.mk h1
  have H2 := Aside0.mk h2
  have HD := Aside0.mk hd0
  have HO1 := Aside0.mk (Kd.S_alloc (Kd.S_mono (Kd.S_bound ho0_1) (ok' := fun k => P1 k ∧ k < w.heap.size) (fun k hk => ⟨hk.1, hk.2.2.1⟩)) (.cells #[.int .i64 a0_0, u1, u2] 29))
  have HO2 := Aside0.mk (Kd.R_alloc (Kd.R_mono (Kd.R_bound ho0_2) (ok' := fun k => P2 k ∧ k < w.heap.size) (fun k hk => ⟨hk.1, hk.2.2.1⟩)) (.cells #[.int .i64 a0_0, u1, u2] 29))
  have BK := Aside0.mk (blk_new w (.cells #[.int .i64 a0_0, u1, u2] 29))
  have HB := Aside0.mk (below_alloc hB (.cells #[.int .i64 a0_0, u1, u2] 29))
  have HK : Aside0 (Kept w (w.alloc (.cells #[.int .i64 a0_0, u1, u2] 29)) (fun k_ => P1 k_ ∨ P2 k_)) := ⟨(Kept.refl w _).alloc _⟩
  obtain ⟨A1, c1, e1⟩ := Kd.S_slice ho0_1
  subst e1
  obtain ⟨A2, c2, e2⟩ := Kd.R_slice ho0_2
  subst e2
  clear h1 h2 hd0 ho0_1 ho0_2 hB
  go_enter Try.func18, Try.ntmps18
  go_wp2_with fail
  refine (laws_markIntSS.calls k _ _ _ _ _ _ w0 _ HB.out HO1.out H1.out).mono ?_
  rintro e wa ⟨rfl, hS, hb, hk⟩
  have HO1a := Aside0.mk hS
  have HO2a := Aside0.mk (Kd.R_kept HO2.out hk (fun k h3 h4 => HD.out k h4.1 h3.1))
  have BKa := Aside0.mk (blk_kept BK.out hk (fun h4 => by have := h4.2; omega))
  have HBa := Aside0.mk hb
  have HKa : Aside0 (Kept w wa (fun k_ => P1 k_ ∨ P2 k_)) := ⟨HK.out.then_ hk (fun k h4 => .inl (.inl h4.1))⟩
  have hc2 : wa.cell? ⟨w.heap.size, 2, none⟩ = some (.slice A2 l0_2.length c2) := (blk_cell BKa.out 2).trans rfl
  clear hS hb hk HO1 HO2 BK HB HK
  go_wp2_with fail
  refine (laws_markIntS.calls k _ _ _ _ _ _ w0 _ HBa.out HO2a.out H2.out).mono ?_
  rintro e wb ⟨rfl, hR, hb, hk⟩
  have HO1b := Aside0.mk (Kd.S_mono (Kd.S_kept HO1a.out hk (fun k h3 h4 => HD.out k h3.1 h4.1)) (fun k hk => hk.1))
  have HO2b : Aside0 (Kd.R (Kd.int .i64) 3 wb w0.heap.size P2 (.slice A2 l0_2.length c2) x2) := ⟨⟨fun k hk => (HO2a.out.1 k hk).1, hR.2⟩⟩
  have HBb := Aside0.mk hb
  have HKb : Aside0 (Kept w wb (fun k_ => P1 k_ ∨ P2 k_)) := ⟨HKa.out.then_ hk (fun k h4 => .inl (.inr h4.1))⟩
  clear hR hb hk HO1a HO2a BKa HBa HKa hc2
  go_wp2_with fail
  go_ret
  exact ⟨rfl, HO1b.out, HO2b.out, HBb.out, HKb.out⟩
end Go.Proofs.Ytadhbepoblllhaa.P
