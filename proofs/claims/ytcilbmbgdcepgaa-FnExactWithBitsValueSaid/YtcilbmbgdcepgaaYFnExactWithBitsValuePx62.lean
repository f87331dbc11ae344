-- PRINTED by print.py (a twelfth state) out of the translation. Not trusted: Lean checks it.
import Derived.Test.YtcilbmbgdcepgaaZFnExactWithBitsValue0
import Derived.Test.YtcilbmbgdcepgaaYFnExactWithBitsValuePx25
import Derived.Test.YtcilbmbgdcepgaaYFnExactWithBitsValuePx27
import Derived.Test.YtcilbmbgdcepgaaYFnExactWithBitsValuePx30
import Derived.Test.YtcilbmbgdcepgaaYFnExactWithBitsValuePx36
import Derived.Test.YtcilbmbgdcepgaaYFnExactWithBitsValuePx48
import Derived.Test.YtcilbmbgdcepgaaYFnExactWithBitsValuePx53
import Derived.Test.YtcilbmbgdcepgaaYFnExactWithBitsValuePx57
import Derived.Test.YtcilbmbgdcepgaaYFnExactWithBitsValuePx60
import Derived.Test.YtcilbmbgdcepgaaYFnExactWithBitsValuePx61
namespace Go.Proofs.Ytcilbmbgdcepgaa.P
open Go.RowKit Go.Proofs.YtcilbmbgdcepgaaW.PrintWords Go.Proofs.YtcilbmbgdcepgaaW.PrintLast Go.Proofs.YtcilbmbgdcepgaaW.PrintMore
attribute [local go_sem] max2_int min2_int max_two min_two max_three min_three max_four min_four   -- for this text's walks alone
set_option linter.unusedVariables false
set_option linter.unusedSimpArgs false

/-! ### lw: function 7 -/
mutual
def lw.j0 : Nat → List Int → Int → Bool → List Int → Bool → Bool → Int → Int → List (S96) → Int → Int → List (S71) → Int → Int → List (S71) → Int → Int → List (S71) → Option (Bool)
  | 0, _, _, _, _, _, _, _, _, _, _, _, _, _, _, _, _, _, _ => none
  | k + 1, x1, x2, x9, x11, x13, x55, x468000, x468001, x468002, x484000, x484001, x484002, x490000, x490001, x490002, x500000, x500001, x500002 => if x55 = true then (some false) else ((laws_toBoard.f k x468000 x468001 x468002).bind fun bt501 => ((laws_eqBoard.f k x490000 x490001 x490002 bt501.1 bt501.2.1 bt501.2.2).bind fun t506 => (if t506 = true then ((laws_toIntS.f k x1).bind fun t507 => ((laws_eqIntS.f k x11 t507).bind fun t510 => (if t510 = true then ((laws_markBoard.f k x490000 x490001 x490002 1).bind fun bt511 => ((laws_markIntS.f k x11 bt511.1).bind fun bt513 => (if bt513.1 < 0 then (lw.j1 k x1 x2 x9 true x468000 x468001 x468002 x484000 x484001 x484002 x500000 x500001 x500002) else ((laws_eqBoard.f k x500000 x500001 x500002 x484000 x484001 x484002).bind fun t515 => (if t515 = true then (lw.j1 k x1 x2 x9 (x13 != x9) x468000 x468001 x468002 x484000 x484001 x484002 x500000 x500001 x500002) else (lw.j1 k x1 x2 x9 true x468000 x468001 x468002 x484000 x484001 x484002 x500000 x500001 x500002)))))) else (some false)))) else (some false))))
def lw.j1 : Nat → List Int → Int → Bool → Bool → Int → Int → List (S96) → Int → Int → List (S71) → Int → Int → List (S71) → Option (Bool)
  | 0, _, _, _, _, _, _, _, _, _, _, _, _, _ => none
  | k + 1, x1, x2, x9, x84, x468000, x468001, x468002, x484000, x484001, x484002, x500000, x500001, x500002 => if x84 = true then (some false) else ((laws_markBoard.f k x500000 x500001 x500002 1).bind fun bt516 => ((laws_heldBoard.f k x500000 x500001 bt516.2 1).bind fun t518 => (if t518 < 0 then (some false) else (if t518 = bt516.1 then ((laws_toBoard.f k x468000 x468001 x468002).bind fun bt519 => ((laws_toIntS.f k x1).bind fun t524 => ((impl_WithBitsValue.f k bt519.1 bt519.2.1 bt519.2.2 t524 x2).bind fun bt527 => ((laws_eqBoard.f k bt527.1 bt527.2.1 bt527.2.2.1 x484000 x484001 x484002).bind fun t534 => (if t534 = true then (lw.j2 k bt516.1 (bt527.2.2.2 != x9) x500000 x500001 bt516.2) else (lw.j2 k bt516.1 true x500000 x500001 bt516.2)))))) else (some false)))))
def lw.j2 : Nat → Int → Bool → Int → Int → List (S71) → Option (Bool)
  | 0, _, _, _, _, _ => none
  | k + 1, x15, x113, x500000, x500001, x500002 => if x113 = true then (some false) else ((laws_heldBoard.f k x500000 x500001 x500002 1).bind fun t535 => (if t535 < 0 then (some false) else (if t535 = x15 then (some true) else (some false))))
end
def lw.f (k : Nat) (a0_0 : Int) (a0_1 : Int) (l0_2 : List (S96)) (l1 : List Int) (a2 : Int) : Option (Bool) := if (l1.length : Int) > 1048576 then (some true) else ((laws_szBoard.f a0_0 a0_1 l0_2 1048576).bind fun t468 => (if t468 < 0 then (some true) else ((laws_toBoard.f k a0_0 a0_1 l0_2).bind fun bt469 => ((laws_toIntS.f k l1).bind fun t474 => ((spec_WithBitsValue.f k bt469.1 bt469.2.1 bt469.2.2 t474 a2).bind fun bt477 => ((laws_toBoard.f k a0_0 a0_1 l0_2).bind fun bt484 => ((laws_toIntS.f k l1).bind fun t490 => ((impl_WithBitsValue.f k bt484.1 bt484.2.1 bt484.2.2 t490 a2).bind fun bt493 => ((laws_eqBoard.f k bt493.1 bt493.2.1 bt493.2.2.1 bt477.1 bt477.2.1 bt477.2.2.1).bind fun t500 => (if t500 = true then (lw.j0 k l1 a2 bt477.2.2.2 t490 bt493.2.2.2 (bt493.2.2.2 != bt477.2.2.2) a0_0 a0_1 l0_2 bt477.1 bt477.2.1 bt477.2.2.1 bt484.1 bt484.2.1 bt484.2.2 bt493.1 bt493.2.1 bt493.2.2.1) else (lw.j0 k l1 a2 bt477.2.2.2 t490 bt493.2.2.2 true a0_0 a0_1 l0_2 bt477.1 bt477.2.1 bt477.2.2.1 bt484.1 bt484.2.1 bt484.2.2 bt493.1 bt493.2.1 bt493.2.2.1)))))))))))
theorem lw.mono_l : ∀ k, (∀ y0 y1 y2 y3 y4 y5 y6 y7 y8 y9 y10 y11 y12 y13 y14 y15 y16 y17, LeO (lw.j0 k y0 y1 y2 y3 y4 y5 y6 y7 y8 y9 y10 y11 y12 y13 y14 y15 y16 y17) (lw.j0 (k + 1) y0 y1 y2 y3 y4 y5 y6 y7 y8 y9 y10 y11 y12 y13 y14 y15 y16 y17)) ∧ (∀ y0 y1 y2 y3 y4 y5 y6 y7 y8 y9 y10 y11 y12, LeO (lw.j1 k y0 y1 y2 y3 y4 y5 y6 y7 y8 y9 y10 y11 y12) (lw.j1 (k + 1) y0 y1 y2 y3 y4 y5 y6 y7 y8 y9 y10 y11 y12)) ∧ (∀ y0 y1 y2 y3 y4, LeO (lw.j2 k y0 y1 y2 y3 y4) (lw.j2 (k + 1) y0 y1 y2 y3 y4))
  | 0 => ⟨fun _ _ _ _ _ _ _ _ _ _ _ _ _ _ _ _ _ _ r h => by simp [lw.j0] at h, fun _ _ _ _ _ _ _ _ _ _ _ _ _ r h => by simp [lw.j1] at h, fun _ _ _ _ _ r h => by simp [lw.j2] at h⟩
  | k + 1 => by
    obtain ⟨ih0, ih1, ih2⟩ := lw.mono_l k
    refine ⟨?_, ?_, ?_⟩
    · intro y0 y1 y2 y3 y4 y5 y6 y7 y8 y9 y10 y11 y12 y13 y14 y15 y16 y17
      unfold lw.j0
      repeat' first
      | (with_reducible exact ih0 _ _ _ _ _ _ _ _ _ _ _ _ _ _ _ _ _ _)
      | (with_reducible exact ih1 _ _ _ _ _ _ _ _ _ _ _ _ _)
      | (with_reducible exact ih2 _ _ _ _ _)
      | (with_reducible exact impl_WithBitsValue.mono _ _ _ _ _ _)
      | (with_reducible exact laws_eqBoard.mono _ _ _ _ _ _ _)
      | (with_reducible exact laws_eqIntS.mono _ _ _)
      | (with_reducible exact laws_heldBoard.mono _ _ _ _ _)
      | (with_reducible exact laws_markBoard.mono _ _ _ _ _)
      | (with_reducible exact laws_markIntS.mono _ _ _)
      | (with_reducible exact laws_toBoard.mono _ _ _ _)
      | (with_reducible exact laws_toIntS.mono _ _)
      | (with_reducible exact spec_WithBitsValue.mono _ _ _ _ _ _)
      | (with_reducible exact LeO.refl _)
      | (with_reducible exact LeO.none _)
      | (with_reducible refine LeO.ite ?_ ?_)
      | (with_reducible refine LeO.bind ?_ (fun _ => ?_))
      | exact ih0 _ _ _ _ _ _ _ _ _ _ _ _ _ _ _ _ _ _
      | exact ih1 _ _ _ _ _ _ _ _ _ _ _ _ _
      | exact ih2 _ _ _ _ _
      | exact impl_WithBitsValue.mono _ _ _ _ _ _
      | exact laws_eqBoard.mono _ _ _ _ _ _ _
      | exact laws_eqIntS.mono _ _ _
      | exact laws_heldBoard.mono _ _ _ _ _
      | exact laws_markBoard.mono _ _ _ _ _
      | exact laws_markIntS.mono _ _ _
      | exact laws_toBoard.mono _ _ _ _
      | exact laws_toIntS.mono _ _
      | exact spec_WithBitsValue.mono _ _ _ _ _ _
      | exact LeO.none _
      | refine LeO.ite ?_ ?_
      | refine LeO.bind ?_ (fun _ => ?_)
    · intro y0 y1 y2 y3 y4 y5 y6 y7 y8 y9 y10 y11 y12
      unfold lw.j1
      repeat' first
      | (with_reducible exact ih0 _ _ _ _ _ _ _ _ _ _ _ _ _ _ _ _ _ _)
      | (with_reducible exact ih1 _ _ _ _ _ _ _ _ _ _ _ _ _)
      | (with_reducible exact ih2 _ _ _ _ _)
      | (with_reducible exact impl_WithBitsValue.mono _ _ _ _ _ _)
      | (with_reducible exact laws_eqBoard.mono _ _ _ _ _ _ _)
      | (with_reducible exact laws_eqIntS.mono _ _ _)
      | (with_reducible exact laws_heldBoard.mono _ _ _ _ _)
      | (with_reducible exact laws_markBoard.mono _ _ _ _ _)
      | (with_reducible exact laws_markIntS.mono _ _ _)
      | (with_reducible exact laws_toBoard.mono _ _ _ _)
      | (with_reducible exact laws_toIntS.mono _ _)
      | (with_reducible exact spec_WithBitsValue.mono _ _ _ _ _ _)
      | (with_reducible exact LeO.refl _)
      | (with_reducible exact LeO.none _)
      | (with_reducible refine LeO.ite ?_ ?_)
      | (with_reducible refine LeO.bind ?_ (fun _ => ?_))
      | exact ih0 _ _ _ _ _ _ _ _ _ _ _ _ _ _ _ _ _ _
      | exact ih1 _ _ _ _ _ _ _ _ _ _ _ _ _
      | exact ih2 _ _ _ _ _
      | exact impl_WithBitsValue.mono _ _ _ _ _ _
      | exact laws_eqBoard.mono _ _ _ _ _ _ _
      | exact laws_eqIntS.mono _ _ _
      | exact laws_heldBoard.mono _ _ _ _ _
      | exact laws_markBoard.mono _ _ _ _ _
      | exact laws_markIntS.mono _ _ _
      | exact laws_toBoard.mono _ _ _ _
      | exact laws_toIntS.mono _ _
      | exact spec_WithBitsValue.mono _ _ _ _ _ _
      | exact LeO.none _
      | refine LeO.ite ?_ ?_
      | refine LeO.bind ?_ (fun _ => ?_)
    · intro y0 y1 y2 y3 y4
      unfold lw.j2
      repeat' first
      | (with_reducible exact ih0 _ _ _ _ _ _ _ _ _ _ _ _ _ _ _ _ _ _)
      | (with_reducible exact ih1 _ _ _ _ _ _ _ _ _ _ _ _ _)
      | (with_reducible exact ih2 _ _ _ _ _)
      | (with_reducible exact impl_WithBitsValue.mono _ _ _ _ _ _)
      | (with_reducible exact laws_eqBoard.mono _ _ _ _ _ _ _)
      | (with_reducible exact laws_eqIntS.mono _ _ _)
      | (with_reducible exact laws_heldBoard.mono _ _ _ _ _)
      | (with_reducible exact laws_markBoard.mono _ _ _ _ _)
      | (with_reducible exact laws_markIntS.mono _ _ _)
      | (with_reducible exact laws_toBoard.mono _ _ _ _)
      | (with_reducible exact laws_toIntS.mono _ _)
      | (with_reducible exact spec_WithBitsValue.mono _ _ _ _ _ _)
      | (with_reducible exact LeO.refl _)
      | (with_reducible exact LeO.none _)
      | (with_reducible refine LeO.ite ?_ ?_)
      | (with_reducible refine LeO.bind ?_ (fun _ => ?_))
      | exact ih0 _ _ _ _ _ _ _ _ _ _ _ _ _ _ _ _ _ _
      | exact ih1 _ _ _ _ _ _ _ _ _ _ _ _ _
      | exact ih2 _ _ _ _ _
      | exact impl_WithBitsValue.mono _ _ _ _ _ _
      | exact laws_eqBoard.mono _ _ _ _ _ _ _
      | exact laws_eqIntS.mono _ _ _
      | exact laws_heldBoard.mono _ _ _ _ _
      | exact laws_markBoard.mono _ _ _ _ _
      | exact laws_markIntS.mono _ _ _
      | exact laws_toBoard.mono _ _ _ _
      | exact laws_toIntS.mono _ _
      | exact spec_WithBitsValue.mono _ _ _ _ _ _
      | exact LeO.none _
      | refine LeO.ite ?_ ?_
      | refine LeO.bind ?_ (fun _ => ?_)
theorem lw.mono : ∀ a0 a1 a2 a3 a4 k, LeO (lw.f k a0 a1 a2 a3 a4) (lw.f (k + 1) a0 a1 a2 a3 a4) := by
  intro a0 a1 a2 a3 a4 k
  obtain ⟨ih0, ih1, ih2⟩ := lw.mono_l k
  unfold lw.f
  repeat' first
      | (with_reducible exact ih0 _ _ _ _ _ _ _ _ _ _ _ _ _ _ _ _ _ _)
      | (with_reducible exact ih1 _ _ _ _ _ _ _ _ _ _ _ _ _)
      | (with_reducible exact ih2 _ _ _ _ _)
      | (with_reducible exact impl_WithBitsValue.mono _ _ _ _ _ _)
      | (with_reducible exact laws_eqBoard.mono _ _ _ _ _ _ _)
      | (with_reducible exact laws_eqIntS.mono _ _ _)
      | (with_reducible exact laws_heldBoard.mono _ _ _ _ _)
      | (with_reducible exact laws_markBoard.mono _ _ _ _ _)
      | (with_reducible exact laws_markIntS.mono _ _ _)
      | (with_reducible exact laws_toBoard.mono _ _ _ _)
      | (with_reducible exact laws_toIntS.mono _ _)
      | (with_reducible exact spec_WithBitsValue.mono _ _ _ _ _ _)
      | (with_reducible exact LeO.refl _)
      | (with_reducible exact LeO.none _)
      | (with_reducible refine LeO.ite ?_ ?_)
      | (with_reducible refine LeO.bind ?_ (fun _ => ?_))
      | exact ih0 _ _ _ _ _ _ _ _ _ _ _ _ _ _ _ _ _ _
      | exact ih1 _ _ _ _ _ _ _ _ _ _ _ _ _
      | exact ih2 _ _ _ _ _
      | exact impl_WithBitsValue.mono _ _ _ _ _ _
      | exact laws_eqBoard.mono _ _ _ _ _ _ _
      | exact laws_eqIntS.mono _ _ _
      | exact laws_heldBoard.mono _ _ _ _ _
      | exact laws_markBoard.mono _ _ _ _ _
      | exact laws_markIntS.mono _ _ _
      | exact laws_toBoard.mono _ _ _ _
      | exact laws_toIntS.mono _ _
      | exact spec_WithBitsValue.mono _ _ _ _ _ _
      | exact LeO.none _
      | refine LeO.ite ?_ ?_
      | refine LeO.bind ?_ (fun _ => ?_)
set_option maxHeartbeats 8000000 in
set_option maxRecDepth 100000 in
theorem lw.calls (k : Nat) (a0_0 : Int) (a0_1 : Int) (A0_2 : Option Addr) (c0_2 : Nat) (l0_2 : List (S96)) (A1 : Option Addr) (c1 : Nat) (l1 : List Int) (a2 : Int) (r : Bool) (w : World) (hr0_2 : Kd.C k96 w A0_2 l0_2.length l0_2) (hc0_2 : l0_2.length ≤ c0_2) (hr1 : Kd.C (Kd.int .i64) w A1 l1.length l1) (hc1 : l1.length ≤ c1) (h : lw.f k a0_0 a0_1 l0_2 l1 a2 = some r) :
    Calls Try.prog 7 #[.agg #[.int .i64 a0_0, .int .i64 a0_1, .slice A0_2 l0_2.length c0_2], .slice A1 l1.length c1, .int .i64 a2] w fun e w' => e = .returned (.bool r) ∧ Below w.heap.size w w' := by
  have hu32 := Try.underlying32
  have hu24 := Try.underlying24
  have HR0_2 := Aside0.mk hr0_2
  have HC0_2 := Aside0.mk hc0_2
  clear hr0_2 hc0_2
  have HR1 := Aside0.mk hr1
  have HC1 := Aside0.mk hc1
  clear hr1 hc1
  have HB := Aside0.mk (Below.refl w.heap.size w)
  have H : (if (l1.length : Int) > 1048576 then (some true) else ((laws_szBoard.f a0_0 a0_1 l0_2 1048576).bind fun t468 => (if t468 < 0 then (some true) else ((laws_toBoard.f k a0_0 a0_1 l0_2).bind fun bt469 => ((laws_toIntS.f k l1).bind fun t474 => ((spec_WithBitsValue.f k bt469.1 bt469.2.1 bt469.2.2 t474 a2).bind fun bt477 => ((laws_toBoard.f k a0_0 a0_1 l0_2).bind fun bt484 => ((laws_toIntS.f k l1).bind fun t490 => ((impl_WithBitsValue.f k bt484.1 bt484.2.1 bt484.2.2 t490 a2).bind fun bt493 => ((laws_eqBoard.f k bt493.1 bt493.2.1 bt493.2.2.1 bt477.1 bt477.2.1 bt477.2.2.1).bind fun t500 => (if t500 = true then (lw.j0 k l1 a2 bt477.2.2.2 t490 bt493.2.2.2 (bt493.2.2.2 != bt477.2.2.2) a0_0 a0_1 l0_2 bt477.1 bt477.2.1 bt477.2.2.1 bt484.1 bt484.2.1 bt484.2.2 bt493.1 bt493.2.1 bt493.2.2.1) else (lw.j0 k l1 a2 bt477.2.2.2 t490 bt493.2.2.2 true a0_0 a0_1 l0_2 bt477.1 bt477.2.1 bt477.2.2.1 bt484.1 bt484.2.1 bt484.2.2 bt493.1 bt493.2.1 bt493.2.2.1)))))))))))) = some r := h
  clear h
  by_cases c4 : (l1.length : Int) > 1048576
  · rw [if_pos c4] at H
    have c4b0 : decide (1048576 < (l1.length : Int)) = true := decide_eq_true c4
    have c4b1 : decide (1048576 < l1.length) = true := decide_eq_true (by omega)
    clear c4
    obtain rfl := Option.some.inj H
    go_enter Try.func7, Try.ntmps7
    go_wp2_with (first | ((with_reducible refine gate_dst (N := 3) rfl ?_); refine box_event ?hg (N := 3) ?hd (cs := #[.int .i64 a0_0, .int .i64 a0_1, .slice A0_2 l0_2.length c0_2]) (t := 32) ?hr ?_; (case hd => rfl); (case hg => rfl); (case hr => first | (go_simp; done) | (go_simp; rfl)); intro gb467 hg w5 hbox hb; have n0_ := Aside0.mk (below_step (by repeat (first | (with_reducible first | exact HB.out | apply below_alloc | apply pw_below_drewN | apply below_drew1) | exact HB.out)) hb); have n1_ := Aside0.mk (hbox); have n2_ := Aside0.mk ((by rw [hg]; exact (below_size (by repeat (first | (with_reducible first | exact HB.out | apply below_alloc | apply pw_below_drewN | apply below_drew1) | exact HB.out))) : w.heap.size ≤ gb467)); have n3_ := Aside0.mk ((by rw [hg]; exact (below_size (by repeat (first | (with_reducible first | exact HB.out | apply below_alloc | apply pw_below_drewN | apply below_drew1) | exact HB.out))) : w.heap.size ≤ gb467)); clear HB; have HB := n0_; have BK467 := n1_; have GW467 := n2_; have GE467 := n3_; clear n0_ n1_ n2_ n3_; clear hb hbox hg))
    go_ret
    exact ⟨by first | rfl | (simp [errW_none, errW_some] <;> rfl) | (simp [*, errW_none, errW_some] <;> rfl), by repeat (first | (with_reducible first | exact HB.out | apply below_alloc | apply pw_below_drewN | apply below_drew1 | refine below_set ?_ GE467.out) | exact HB.out)⟩
  · rw [if_neg c4] at H
    have c4b0 : decide (1048576 < (l1.length : Int)) = false := decide_eq_false c4
    have c4b1 : decide (1048576 < l1.length) = false := decide_eq_false (by omega)
    clear c4
    replace H := Option.bind_eq_some_iff.mp H
    obtain ⟨t468, A60, H⟩ := H
    replace H : (if t468 < 0 then (some true) else ((laws_toBoard.f k a0_0 a0_1 l0_2).bind fun bt469 => ((laws_toIntS.f k l1).bind fun t474 => ((spec_WithBitsValue.f k bt469.1 bt469.2.1 bt469.2.2 t474 a2).bind fun bt477 => ((laws_toBoard.f k a0_0 a0_1 l0_2).bind fun bt484 => ((laws_toIntS.f k l1).bind fun t490 => ((impl_WithBitsValue.f k bt484.1 bt484.2.1 bt484.2.2 t490 a2).bind fun bt493 => ((laws_eqBoard.f k bt493.1 bt493.2.1 bt493.2.2.1 bt477.1 bt477.2.1 bt477.2.2.1).bind fun t500 => (if t500 = true then (lw.j0 k l1 a2 bt477.2.2.2 t490 bt493.2.2.2 (bt493.2.2.2 != bt477.2.2.2) a0_0 a0_1 l0_2 bt477.1 bt477.2.1 bt477.2.2.1 bt484.1 bt484.2.1 bt484.2.2 bt493.1 bt493.2.1 bt493.2.2.1) else (lw.j0 k l1 a2 bt477.2.2.2 t490 bt493.2.2.2 true a0_0 a0_1 l0_2 bt477.1 bt477.2.1 bt477.2.2.1 bt484.1 bt484.2.1 bt484.2.2 bt493.1 bt493.2.1 bt493.2.2.1)))))))))) = some r := H
    have A6 := Aside0.mk A60
    clear A60
    by_cases c7 : t468 < 0
    · rw [if_pos c7] at H
      have c7b0 : decide (t468 < 0) = true := decide_eq_true c7
      clear c7
      obtain rfl := Option.some.inj H
      go_enter Try.func7, Try.ntmps7
      go_wp2_with (first | ((with_reducible refine gate_dst (N := 3) rfl ?_); refine box_event ?hg (N := 3) ?hd (cs := #[.int .i64 a0_0, .int .i64 a0_1, .slice A0_2 l0_2.length c0_2]) (t := 32) ?hr ?_; (case hd => rfl); (case hg => rfl); (case hr => first | (go_simp; done) | (go_simp; rfl)); intro gb467 hg w8 hbox hb; have n0_ := Aside0.mk (below_step (by repeat (first | (with_reducible first | exact HB.out | apply below_alloc | apply pw_below_drewN | apply below_drew1) | exact HB.out)) hb); have n1_ := Aside0.mk (hbox); have n2_ := Aside0.mk ((by rw [hg]; exact (below_size (by repeat (first | (with_reducible first | exact HB.out | apply below_alloc | apply pw_below_drewN | apply below_drew1) | exact HB.out))) : w.heap.size ≤ gb467)); have n3_ := Aside0.mk ((by rw [hg]; exact (below_size (by repeat (first | (with_reducible first | exact HB.out | apply below_alloc | apply pw_below_drewN | apply below_drew1) | exact HB.out))) : w.heap.size ≤ gb467)); clear HB; have HB := n0_; have BK467 := n1_; have GW467 := n2_; have GE467 := n3_; clear n0_ n1_ n2_ n3_; clear hb hbox hg; have hcz9_0 : w8.cell? ⟨gb467, 0, none⟩ = some (.int .i64 a0_0) := (blk_cell BK467.out 0).trans rfl; have hcz9_1 : w8.cell? ⟨gb467, 1, none⟩ = some (.int .i64 a0_1) := (blk_cell BK467.out 1).trans rfl; have hcz9_2 : w8.cell? ⟨gb467, 2, none⟩ = some (.slice A0_2 l0_2.length c0_2) := (blk_cell BK467.out 2).trans rfl; have hfz9_0 := blk_frozen BK467.out 0; have hfz9_1 := blk_frozen BK467.out 1; have hfz9_2 := blk_frozen BK467.out 2) | ((with_reducible refine gate_callee (f := 18) rfl ?_); refine goesL_ (some 24) rfl rfl Try.func18 (by kernel_rfl) rfl #[.agg #[.int .i64 a0_0, .int .i64 a0_1, .slice A0_2 l0_2.length c0_2], .int .i64 1048576] rfl (by (try simp only [List.map_toArray, List.map_cons, List.map_nil]); first | done | rfl | (simp only [List.length_drop, List.length_take]; rfl)) ?_; (with_reducible refine (laws_szBoard.calls a0_0 a0_1 _ _ l0_2 1048576 t468 _ ?side1 ?side2 A6.out).mono ?_); (case side1 => repeat (first | exact (Kd.C_below HR0_2.out HB.out) | (with_reducible refine Kd.C_alloc ?_ _) | (with_reducible refine Kd.C_drewN ?_ _) | (with_reducible refine Kd.C_drew ?_))); (case side2 => exact HC0_2.out); rintro e w10 ⟨rfl, hb⟩; refine ⟨_, rfl, ?_⟩; have n0_ := Aside0.mk (blk_below (g := gb467) (o := .cells #[.int .i64 a0_0, .int .i64 a0_1, .slice A0_2 l0_2.length c0_2] 32 (0, 0)) (by (with_reducible repeat (first | refine blk_drewN ?_ _ | refine blk_drew ?_ | refine blk_alloc ?_ _)); exact BK467.out) hb); have n1_ := Aside0.mk (below_step (by repeat (first | (with_reducible first | exact HB.out | apply below_alloc | apply pw_below_drewN | apply below_drew1 | refine below_set ?_ GE467.out) | exact HB.out)) hb); clear BK467; clear HB; have BK467 := n0_; have HB := n1_; clear n0_ n1_; (try clear hb); (try clear hb2); (try clear hk); (try clear hi)))
      go_ret
      exact ⟨by first | rfl | (simp [errW_none, errW_some] <;> rfl) | (simp [*, errW_none, errW_some] <;> rfl), by repeat (first | (with_reducible first | exact HB.out | apply below_alloc | apply pw_below_drewN | apply below_drew1 | refine below_set ?_ GE467.out) | exact HB.out)⟩
    · rw [if_neg c7] at H
      have c7b0 : decide (t468 < 0) = false := decide_eq_false c7
      clear c7
      replace H := Option.bind_eq_some_iff.mp H
      obtain ⟨⟨t469, t470, t471⟩, A110, H⟩ := H
      replace H : ((laws_toIntS.f k l1).bind fun t474 => ((spec_WithBitsValue.f k t469 t470 t471 t474 a2).bind fun bt477 => ((laws_toBoard.f k a0_0 a0_1 l0_2).bind fun bt484 => ((laws_toIntS.f k l1).bind fun t490 => ((impl_WithBitsValue.f k bt484.1 bt484.2.1 bt484.2.2 t490 a2).bind fun bt493 => ((laws_eqBoard.f k bt493.1 bt493.2.1 bt493.2.2.1 bt477.1 bt477.2.1 bt477.2.2.1).bind fun t500 => (if t500 = true then (lw.j0 k l1 a2 bt477.2.2.2 t490 bt493.2.2.2 (bt493.2.2.2 != bt477.2.2.2) a0_0 a0_1 l0_2 bt477.1 bt477.2.1 bt477.2.2.1 bt484.1 bt484.2.1 bt484.2.2 bt493.1 bt493.2.1 bt493.2.2.1) else (lw.j0 k l1 a2 bt477.2.2.2 t490 bt493.2.2.2 true a0_0 a0_1 l0_2 bt477.1 bt477.2.1 bt477.2.2.1 bt484.1 bt484.2.1 bt484.2.2 bt493.1 bt493.2.1 bt493.2.2.1)))))))) = some r := H
      have A11 := Aside0.mk A110
      clear A110
      replace H := Option.bind_eq_some_iff.mp H
      obtain ⟨t474, A120, H⟩ := H
      replace H : ((spec_WithBitsValue.f k t469 t470 t471 t474 a2).bind fun bt477 => ((laws_toBoard.f k a0_0 a0_1 l0_2).bind fun bt484 => ((laws_toIntS.f k l1).bind fun t490 => ((impl_WithBitsValue.f k bt484.1 bt484.2.1 bt484.2.2 t490 a2).bind fun bt493 => ((laws_eqBoard.f k bt493.1 bt493.2.1 bt493.2.2.1 bt477.1 bt477.2.1 bt477.2.2.1).bind fun t500 => (if t500 = true then (lw.j0 k l1 a2 bt477.2.2.2 t490 bt493.2.2.2 (bt493.2.2.2 != bt477.2.2.2) a0_0 a0_1 l0_2 bt477.1 bt477.2.1 bt477.2.2.1 bt484.1 bt484.2.1 bt484.2.2 bt493.1 bt493.2.1 bt493.2.2.1) else (lw.j0 k l1 a2 bt477.2.2.2 t490 bt493.2.2.2 true a0_0 a0_1 l0_2 bt477.1 bt477.2.1 bt477.2.2.1 bt484.1 bt484.2.1 bt484.2.2 bt493.1 bt493.2.1 bt493.2.2.1))))))) = some r := H
      have A12 := Aside0.mk A120
      clear A120
      replace H := Option.bind_eq_some_iff.mp H
      obtain ⟨⟨t477, t478, t479, t482⟩, A130, H⟩ := H
      replace H : ((laws_toBoard.f k a0_0 a0_1 l0_2).bind fun bt484 => ((laws_toIntS.f k l1).bind fun t490 => ((impl_WithBitsValue.f k bt484.1 bt484.2.1 bt484.2.2 t490 a2).bind fun bt493 => ((laws_eqBoard.f k bt493.1 bt493.2.1 bt493.2.2.1 t477 t478 t479).bind fun t500 => (if t500 = true then (lw.j0 k l1 a2 t482 t490 bt493.2.2.2 (bt493.2.2.2 != t482) a0_0 a0_1 l0_2 t477 t478 t479 bt484.1 bt484.2.1 bt484.2.2 bt493.1 bt493.2.1 bt493.2.2.1) else (lw.j0 k l1 a2 t482 t490 bt493.2.2.2 true a0_0 a0_1 l0_2 t477 t478 t479 bt484.1 bt484.2.1 bt484.2.2 bt493.1 bt493.2.1 bt493.2.2.1)))))) = some r := H
      have A13 := Aside0.mk A130
      clear A130
      replace H := Option.bind_eq_some_iff.mp H
      obtain ⟨⟨t484, t485, t486⟩, A140, H⟩ := H
      replace H : ((laws_toIntS.f k l1).bind fun t490 => ((impl_WithBitsValue.f k t484 t485 t486 t490 a2).bind fun bt493 => ((laws_eqBoard.f k bt493.1 bt493.2.1 bt493.2.2.1 t477 t478 t479).bind fun t500 => (if t500 = true then (lw.j0 k l1 a2 t482 t490 bt493.2.2.2 (bt493.2.2.2 != t482) a0_0 a0_1 l0_2 t477 t478 t479 t484 t485 t486 bt493.1 bt493.2.1 bt493.2.2.1) else (lw.j0 k l1 a2 t482 t490 bt493.2.2.2 true a0_0 a0_1 l0_2 t477 t478 t479 t484 t485 t486 bt493.1 bt493.2.1 bt493.2.2.1))))) = some r := H
      have A14 := Aside0.mk A140
      clear A140
      replace H := Option.bind_eq_some_iff.mp H
      obtain ⟨t490, A150, H⟩ := H
      replace H : ((impl_WithBitsValue.f k t484 t485 t486 t490 a2).bind fun bt493 => ((laws_eqBoard.f k bt493.1 bt493.2.1 bt493.2.2.1 t477 t478 t479).bind fun t500 => (if t500 = true then (lw.j0 k l1 a2 t482 t490 bt493.2.2.2 (bt493.2.2.2 != t482) a0_0 a0_1 l0_2 t477 t478 t479 t484 t485 t486 bt493.1 bt493.2.1 bt493.2.2.1) else (lw.j0 k l1 a2 t482 t490 bt493.2.2.2 true a0_0 a0_1 l0_2 t477 t478 t479 t484 t485 t486 bt493.1 bt493.2.1 bt493.2.2.1)))) = some r := H
      have A15 := Aside0.mk A150
      clear A150
      replace H := Option.bind_eq_some_iff.mp H
      obtain ⟨⟨t493, t494, t495, t498⟩, A160, H⟩ := H
      replace H : ((laws_eqBoard.f k t493 t494 t495 t477 t478 t479).bind fun t500 => (if t500 = true then (lw.j0 k l1 a2 t482 t490 t498 (t498 != t482) a0_0 a0_1 l0_2 t477 t478 t479 t484 t485 t486 t493 t494 t495) else (lw.j0 k l1 a2 t482 t490 t498 true a0_0 a0_1 l0_2 t477 t478 t479 t484 t485 t486 t493 t494 t495))) = some r := H
      have A16 := Aside0.mk A160
      clear A160
      have HC17 := Aside0.mk H
      clear H
      go_enter Try.func7, Try.ntmps7
      go_upto_region 11 with (first | ((with_reducible refine gate_dst (N := 3) rfl ?_); refine box_event ?hg (N := 3) ?hd (cs := #[.int .i64 a0_0, .int .i64 a0_1, .slice A0_2 l0_2.length c0_2]) (t := 32) ?hr ?_; (case hd => rfl); (case hg => rfl); (case hr => first | (go_simp; done) | (go_simp; rfl)); intro gb467 hg w18 hbox hb; have n0_ := Aside0.mk (below_step (by repeat (first | (with_reducible first | exact HB.out | apply below_alloc | apply pw_below_drewN | apply below_drew1) | exact HB.out)) hb); have n1_ := Aside0.mk (hbox); have n2_ := Aside0.mk ((by rw [hg]; exact (below_size (by repeat (first | (with_reducible first | exact HB.out | apply below_alloc | apply pw_below_drewN | apply below_drew1) | exact HB.out))) : w.heap.size ≤ gb467)); have n3_ := Aside0.mk ((by rw [hg]; exact (below_size (by repeat (first | (with_reducible first | exact HB.out | apply below_alloc | apply pw_below_drewN | apply below_drew1) | exact HB.out))) : w.heap.size ≤ gb467)); clear HB; have HB := n0_; have BK467 := n1_; have GW467 := n2_; have GE467 := n3_; clear n0_ n1_ n2_ n3_; clear hb hbox hg; have hcz19_0 : w18.cell? ⟨gb467, 0, none⟩ = some (.int .i64 a0_0) := (blk_cell BK467.out 0).trans rfl; have hcz19_1 : w18.cell? ⟨gb467, 1, none⟩ = some (.int .i64 a0_1) := (blk_cell BK467.out 1).trans rfl; have hcz19_2 : w18.cell? ⟨gb467, 2, none⟩ = some (.slice A0_2 l0_2.length c0_2) := (blk_cell BK467.out 2).trans rfl; have hfz19_0 := blk_frozen BK467.out 0; have hfz19_1 := blk_frozen BK467.out 1; have hfz19_2 := blk_frozen BK467.out 2) | ((with_reducible refine gate_callee (f := 18) rfl ?_); refine goesL_ (some 24) rfl rfl Try.func18 (by kernel_rfl) rfl #[.agg #[.int .i64 a0_0, .int .i64 a0_1, .slice A0_2 l0_2.length c0_2], .int .i64 1048576] rfl (by (try simp only [List.map_toArray, List.map_cons, List.map_nil]); first | done | rfl | (simp only [List.length_drop, List.length_take]; rfl)) ?_; (with_reducible refine (laws_szBoard.calls a0_0 a0_1 _ _ l0_2 1048576 t468 _ ?side1 ?side2 A6.out).mono ?_); (case side1 => repeat (first | exact (Kd.C_below HR0_2.out HB.out) | (with_reducible refine Kd.C_alloc ?_ _) | (with_reducible refine Kd.C_drewN ?_ _) | (with_reducible refine Kd.C_drew ?_))); (case side2 => exact HC0_2.out); rintro e w20 ⟨rfl, hb⟩; refine ⟨_, rfl, ?_⟩; have n0_ := Aside0.mk (blk_below (g := gb467) (o := .cells #[.int .i64 a0_0, .int .i64 a0_1, .slice A0_2 l0_2.length c0_2] 32 (0, 0)) (by (with_reducible repeat (first | refine blk_drewN ?_ _ | refine blk_drew ?_ | refine blk_alloc ?_ _)); exact BK467.out) hb); have n1_ := Aside0.mk (below_step (by repeat (first | (with_reducible first | exact HB.out | apply below_alloc | apply pw_below_drewN | apply below_drew1 | refine below_set ?_ GE467.out) | exact HB.out)) hb); clear BK467; clear HB; have BK467 := n0_; have HB := n1_; clear n0_ n1_; (try clear hb); (try clear hb2); (try clear hk); (try clear hi); have hcz21_0 : w20.cell? ⟨gb467, 0, none⟩ = some (.int .i64 a0_0) := (blk_cell BK467.out 0).trans rfl; have hcz21_1 : w20.cell? ⟨gb467, 1, none⟩ = some (.int .i64 a0_1) := (blk_cell BK467.out 1).trans rfl; have hcz21_2 : w20.cell? ⟨gb467, 2, none⟩ = some (.slice A0_2 l0_2.length c0_2) := (blk_cell BK467.out 2).trans rfl; have hfz21_0 := blk_frozen BK467.out 0; have hfz21_1 := blk_frozen BK467.out 1; have hfz21_2 := blk_frozen BK467.out 2) | ((with_reducible refine gate_callee (f := 20) rfl ?_); refine goesL_ (some 29) rfl rfl Try.func20 (by kernel_rfl) rfl #[.agg #[.int .i64 a0_0, .int .i64 a0_1, .slice A0_2 l0_2.length c0_2]] rfl (by (try simp only [List.map_toArray, List.map_cons, List.map_nil]); first | done | rfl | (simp only [List.length_drop, List.length_take]; rfl)) ?_; (with_reducible refine (laws_toBoard.calls k a0_0 a0_1 _ _ l0_2 t469 t470 t471 _ ?side1 ?side2 A11.out).mono ?_); (case side1 => repeat (first | exact (Kd.C_below HR0_2.out HB.out) | (with_reducible refine Kd.C_alloc ?_ _) | (with_reducible refine Kd.C_drewN ?_ _) | (with_reducible refine Kd.C_drew ?_))); (case side2 => exact HC0_2.out); rintro e w22 ⟨v472, rfl, ho0, hb⟩; refine ⟨_, rfl, ?_⟩; have n0_ := Aside0.mk (Kd.R_lower ho0 (below_size (by repeat (first | (with_reducible first | exact HB.out | apply below_alloc | apply pw_below_drewN | apply below_drew1 | refine below_set ?_ GE467.out) | exact HB.out)))); have n1_ := Aside0.mk (blk_below (g := gb467) (o := .cells #[.int .i64 a0_0, .int .i64 a0_1, .slice A0_2 l0_2.length c0_2] 32 (0, 0)) (by (with_reducible repeat (first | refine blk_drewN ?_ _ | refine blk_drew ?_ | refine blk_alloc ?_ _)); exact BK467.out) hb); have n2_ := Aside0.mk (below_step (by repeat (first | (with_reducible first | exact HB.out | apply below_alloc | apply pw_below_drewN | apply below_drew1 | refine below_set ?_ GE467.out) | exact HB.out)) hb); clear BK467; clear HB; have HO473 := n0_; have BK467 := n1_; have HB := n2_; clear n0_ n1_ n2_; (try clear hb); (try clear hb2); (try clear hk); (try clear hi); (try clear ho0)) | ((with_reducible refine gate_callee (f := 25) rfl ?_); refine goesL_ (some 31) rfl rfl Try.func25 (by kernel_rfl) rfl #[.slice A1 l1.length c1] rfl (by (try simp only [List.map_toArray, List.map_cons, List.map_nil]); first | done | rfl | (simp only [List.length_drop, List.length_take]; rfl)) ?_; (with_reducible refine (laws_toIntS.calls k _ _ l1 t474 _ ?side1 ?side2 A12.out).mono ?_); (case side1 => repeat (first | exact (Kd.C_below HR1.out HB.out) | (with_reducible refine Kd.C_alloc ?_ _) | (with_reducible refine Kd.C_drewN ?_ _) | (with_reducible refine Kd.C_drew ?_))); (case side2 => exact HC1.out); rintro e w23 ⟨v475, rfl, ho0, hb⟩; refine ⟨_, rfl, ?_⟩; have n0_ := Aside0.mk (Kd.R_below (by (with_reducible repeat (first | apply Kd.R_alloc | apply Kd.R_drewN | apply Kd.R_drew)); exact HO473.out) hb); have n1_ := Aside0.mk (Kd.R_lower ho0 (below_size (by repeat (first | (with_reducible first | exact HB.out | apply below_alloc | apply pw_below_drewN | apply below_drew1 | refine below_set ?_ GE467.out) | exact HB.out)))); have n2_ := Aside0.mk (blk_below (g := gb467) (o := .cells #[.int .i64 a0_0, .int .i64 a0_1, .slice A0_2 l0_2.length c0_2] 32 (0, 0)) (by (with_reducible repeat (first | refine blk_drewN ?_ _ | refine blk_drew ?_ | refine blk_alloc ?_ _)); exact BK467.out) hb); have n3_ := Aside0.mk (below_step (by repeat (first | (with_reducible first | exact HB.out | apply below_alloc | apply pw_below_drewN | apply below_drew1 | refine below_set ?_ GE467.out) | exact HB.out)) hb); clear HO473; clear BK467; clear HB; have HO473 := n0_; have HO476 := n1_; have BK467 := n2_; have HB := n3_; clear n0_ n1_ n2_ n3_; (try clear hb); (try clear hb2); (try clear hk); (try clear hi); (try clear ho0); obtain ⟨Ao24, co24, eo24⟩ := Kd.R_slice HO473.out; subst eo24; obtain ⟨Ao25, co25, eo25⟩ := Kd.R_slice HO476.out; subst eo25) | ((with_reducible refine gate_callee (f := 28) rfl ?_); refine goesL_ (some 33) rfl rfl Try.func28 (by kernel_rfl) rfl #[.agg #[.int .i64 t469, .int .i64 t470, .slice Ao24 t471.length co24], .slice Ao25 t474.length co25, .int .i64 a2] rfl (by (try simp only [List.map_toArray, List.map_cons, List.map_nil]); first | done | rfl | (simp only [List.length_drop, List.length_take]; rfl)) ?_; (with_reducible refine (spec_WithBitsValue.calls k t469 t470 _ _ t471 _ _ t474 a2 t477 t478 t479 t482 _ ?side1 ?side2 ?side3 ?side4 A13.out).mono ?_); (case side1 => repeat (first | exact (Kd.R_reads' HO473.out).2.2 | (with_reducible refine Kd.C_alloc ?_ _) | (with_reducible refine Kd.C_drewN ?_ _) | (with_reducible refine Kd.C_drew ?_))); (case side2 => exact (Kd.R_reads' HO473.out).2.1); (case side3 => repeat (first | exact (Kd.R_reads' HO476.out).2.2 | (with_reducible refine Kd.C_alloc ?_ _) | (with_reducible refine Kd.C_drewN ?_ _) | (with_reducible refine Kd.C_drew ?_))); (case side4 => exact (Kd.R_reads' HO476.out).2.1); rintro e w26 ⟨v480, rfl, ho0, hb⟩; refine ⟨_, rfl, ?_⟩; have n0_ := Aside0.mk (Kd.R_elder' (by (with_reducible repeat (first | apply Kd.R_alloc | apply Kd.R_drewN | apply Kd.R_drew)); exact HO473.out) (Kd.R_base ho0) hb); have n1_ := Aside0.mk (Kd.R_below (by (with_reducible repeat (first | apply Kd.R_alloc | apply Kd.R_drewN | apply Kd.R_drew)); exact HO476.out) hb); have n2_ := Aside0.mk (Kd.R_lower (Kd.R_new' ho0 (Kd.R_lt (by (with_reducible repeat (first | apply Kd.R_alloc | apply Kd.R_drewN | apply Kd.R_drew)); exact HO473.out))) (below_size (by repeat (first | (with_reducible first | exact HB.out | apply below_alloc | apply pw_below_drewN | apply below_drew1 | refine below_set ?_ GE467.out) | exact HB.out)))); have n3_ := Aside0.mk (blk_below (g := gb467) (o := .cells #[.int .i64 a0_0, .int .i64 a0_1, .slice A0_2 l0_2.length c0_2] 32 (0, 0)) (by (with_reducible repeat (first | refine blk_drewN ?_ _ | refine blk_drew ?_ | refine blk_alloc ?_ _)); exact BK467.out) hb); have n4_ := Aside0.mk (below_step (by repeat (first | (with_reducible first | exact HB.out | apply below_alloc | apply pw_below_drewN | apply below_drew1 | refine below_set ?_ GE467.out) | exact HB.out)) hb); clear HO473; clear HO476; clear BK467; clear HB; have HO473 := n0_; have HO476 := n1_; have HO481 := n2_; have BK467 := n3_; have HB := n4_; clear n0_ n1_ n2_ n3_ n4_; (try clear hb); (try clear hb2); (try clear hk); (try clear hi); (try clear ho0)) | ((with_reducible refine gate_dst (N := 8) rfl ?_); refine box_event ?hg (N := 8) ?hd (cs := #[.int .i64 0, .int .i64 0, .slice none 0 0]) (t := 24) ?hr ?_; (case hd => rfl); (case hg => rfl); (case hr => first | (go_simp; done) | (go_simp; rfl)); intro gb483 hg w27 hbox hb; have n0_ := Aside0.mk (Kd.R_below (by (with_reducible repeat (first | apply Kd.R_alloc | apply Kd.R_drewN | apply Kd.R_drew)); exact HO473.out) hb); have n1_ := Aside0.mk (Kd.R_below (by (with_reducible repeat (first | apply Kd.R_alloc | apply Kd.R_drewN | apply Kd.R_drew)); exact HO476.out) hb); have n2_ := Aside0.mk (Kd.R_below (by (with_reducible repeat (first | apply Kd.R_alloc | apply Kd.R_drewN | apply Kd.R_drew)); exact HO481.out) hb); have n3_ := Aside0.mk (blk_below (g := gb467) (o := .cells #[.int .i64 a0_0, .int .i64 a0_1, .slice A0_2 l0_2.length c0_2] 32 (0, 0)) (by (with_reducible repeat (first | refine blk_drewN ?_ _ | refine blk_drew ?_ | refine blk_alloc ?_ _)); exact BK467.out) hb); have n4_ := Aside0.mk (below_step (by repeat (first | (with_reducible first | exact HB.out | apply below_alloc | apply pw_below_drewN | apply below_drew1 | refine below_set ?_ GE467.out) | exact HB.out)) hb); have n5_ := Aside0.mk (hbox); have n6_ := Aside0.mk ((by rw [hg]; exact (below_size (by repeat (first | (with_reducible first | exact HB.out | apply below_alloc | apply pw_below_drewN | apply below_drew1 | refine below_set ?_ GE467.out) | exact HB.out))) : w.heap.size ≤ gb483)); have n7_ := Aside0.mk ((by rw [hg]; exact (below_size (by repeat (first | (with_reducible first | exact HB.out | apply below_alloc | apply pw_below_drewN | apply below_drew1 | refine below_set ?_ GE467.out) | exact HB.out))) : w.heap.size ≤ gb483)); have n8_ := Aside0.mk ((by rw [hg]; exact Nat.ne_of_lt (blk_lt (g := gb467) (o := .cells #[.int .i64 a0_0, .int .i64 a0_1, .slice A0_2 l0_2.length c0_2] 32 (0, 0)) (by (with_reducible repeat (first | refine blk_drewN ?_ _ | refine blk_drew ?_ | refine blk_alloc ?_ _)); exact BK467.out)) : gb467 ≠ gb483)); have n9_ := Aside0.mk ((by rw [hg]; exact Nat.ne_of_gt (blk_lt (g := gb467) (o := .cells #[.int .i64 a0_0, .int .i64 a0_1, .slice A0_2 l0_2.length c0_2] 32 (0, 0)) (by (with_reducible repeat (first | refine blk_drewN ?_ _ | refine blk_drew ?_ | refine blk_alloc ?_ _)); exact BK467.out)) : gb483 ≠ gb467)); clear HO473; clear HO476; clear HO481; clear BK467; clear HB; have HO473 := n0_; have HO476 := n1_; have HO481 := n2_; have BK467 := n3_; have HB := n4_; have BK483 := n5_; have GW483 := n6_; have GE483 := n7_; have NB467_483 := n8_; have NB483_467 := n9_; clear n0_ n1_ n2_ n3_ n4_ n5_ n6_ n7_ n8_ n9_; clear hb hbox hg; have hnb28 := NB483_467.out; have hnc28 := NB467_483.out; have hcz29_0 : w27.cell? ⟨gb483, 0, none⟩ = some (.int .i64 0) := (blk_cell BK483.out 0).trans rfl; have hcz29_1 : w27.cell? ⟨gb483, 1, none⟩ = some (.int .i64 0) := (blk_cell BK483.out 1).trans rfl; have hcz29_2 : w27.cell? ⟨gb483, 2, none⟩ = some (.slice none 0 0) := (blk_cell BK483.out 2).trans rfl; have hfz29_0 := blk_frozen BK483.out 0; have hfz29_1 := blk_frozen BK483.out 1; have hfz29_2 := blk_frozen BK483.out 2; obtain ⟨Ao30, co30, eo30⟩ := Kd.R_slice HO481.out; subst eo30; have hcz31_0 : w27.cell? ⟨gb467, 0, none⟩ = some (.int .i64 a0_0) := (blk_cell BK467.out 0).trans rfl; have hcz31_1 : w27.cell? ⟨gb467, 1, none⟩ = some (.int .i64 a0_1) := (blk_cell BK467.out 1).trans rfl; have hcz31_2 : w27.cell? ⟨gb467, 2, none⟩ = some (.slice A0_2 l0_2.length c0_2) := (blk_cell BK467.out 2).trans rfl; have hfz31_0 := blk_frozen BK467.out 0; have hfz31_1 := blk_frozen BK467.out 1; have hfz31_2 := blk_frozen BK467.out 2) | ((with_reducible refine gate_callee (f := 20) rfl ?_); refine goesL_ (some 37) rfl rfl Try.func20 (by kernel_rfl) rfl #[.agg #[.int .i64 a0_0, .int .i64 a0_1, .slice A0_2 l0_2.length c0_2]] rfl (by (try simp only [List.map_toArray, List.map_cons, List.map_nil]); first | done | rfl | (simp only [List.length_drop, List.length_take]; rfl)) ?_; (with_reducible refine (laws_toBoard.calls k a0_0 a0_1 _ _ l0_2 t484 t485 t486 _ ?side1 ?side2 A14.out).mono ?_); (case side1 => exact Kd.C_below HR0_2.out (by repeat (first | (with_reducible first | exact HB.out | apply below_alloc | apply pw_below_drewN | apply below_drew1 | refine below_set ?_ GE467.out | refine below_set ?_ GE483.out) | exact HB.out))); (case side2 => exact HC0_2.out); rintro e w32 ⟨v487, rfl, ho0, hb⟩; refine ⟨_, rfl, ?_⟩; have n0_ := Aside0.mk (Kd.R_elder' (by (with_reducible repeat (first | apply Kd.R_alloc | apply Kd.R_drewN | apply Kd.R_drew)); exact (Kd.R_mono (Kd.R_far (p := ⟨gb483, 2, none⟩) (Kd.R_far (p := ⟨gb483, 1, none⟩) (Kd.R_far (p := ⟨gb483, 0, none⟩) (Kd.R_types HO473.out BK483.out (by decide)) (fun _ hk => hk.2) (.int .i64 t477)) (fun _ hk => hk.2) (.int .i64 t478)) (fun _ hk => hk.2) (.slice Ao30 t479.length co30)) (fun _ h_ => h_.1))) (Kd.R_base ho0) hb); have n1_ := Aside0.mk (Kd.R_below (by (with_reducible repeat (first | apply Kd.R_alloc | apply Kd.R_drewN | apply Kd.R_drew)); exact (Kd.R_mono (Kd.R_far (p := ⟨gb483, 2, none⟩) (Kd.R_far (p := ⟨gb483, 1, none⟩) (Kd.R_far (p := ⟨gb483, 0, none⟩) (Kd.R_types HO476.out BK483.out (by decide)) (fun _ hk => hk.2) (.int .i64 t477)) (fun _ hk => hk.2) (.int .i64 t478)) (fun _ hk => hk.2) (.slice Ao30 t479.length co30)) (fun _ h_ => h_.1))) hb); have n2_ := Aside0.mk (Kd.R_elder' (by (with_reducible repeat (first | apply Kd.R_alloc | apply Kd.R_drewN | apply Kd.R_drew)); exact (Kd.R_mono (Kd.R_far (p := ⟨gb483, 2, none⟩) (Kd.R_far (p := ⟨gb483, 1, none⟩) (Kd.R_far (p := ⟨gb483, 0, none⟩) (Kd.R_types HO481.out BK483.out (by decide)) (fun _ hk => hk.2) (.int .i64 t477)) (fun _ hk => hk.2) (.int .i64 t478)) (fun _ hk => hk.2) (.slice Ao30 t479.length co30)) (fun _ h_ => h_.1))) (Kd.R_base ho0) hb); have n3_ := Aside0.mk (Kd.R_lower (Kd.R_new' (Kd.R_new' ho0 (Kd.R_lt (by (with_reducible repeat (first | apply Kd.R_alloc | apply Kd.R_drewN | apply Kd.R_drew)); exact (Kd.R_mono (Kd.R_far (p := ⟨gb483, 2, none⟩) (Kd.R_far (p := ⟨gb483, 1, none⟩) (Kd.R_far (p := ⟨gb483, 0, none⟩) (Kd.R_types HO473.out BK483.out (by decide)) (fun _ hk => hk.2) (.int .i64 t477)) (fun _ hk => hk.2) (.int .i64 t478)) (fun _ hk => hk.2) (.slice Ao30 t479.length co30)) (fun _ h_ => h_.1))))) (Kd.R_lt (by (with_reducible repeat (first | apply Kd.R_alloc | apply Kd.R_drewN | apply Kd.R_drew)); exact (Kd.R_mono (Kd.R_far (p := ⟨gb483, 2, none⟩) (Kd.R_far (p := ⟨gb483, 1, none⟩) (Kd.R_far (p := ⟨gb483, 0, none⟩) (Kd.R_types HO481.out BK483.out (by decide)) (fun _ hk => hk.2) (.int .i64 t477)) (fun _ hk => hk.2) (.int .i64 t478)) (fun _ hk => hk.2) (.slice Ao30 t479.length co30)) (fun _ h_ => h_.1))))) (below_size (by repeat (first | (with_reducible first | exact HB.out | apply below_alloc | apply pw_below_drewN | apply below_drew1 | refine below_set ?_ GE467.out | refine below_set ?_ GE483.out) | exact HB.out)))); have n4_ := Aside0.mk (blk_below (g := gb467) (o := .cells #[.int .i64 a0_0, .int .i64 a0_1, .slice A0_2 l0_2.length c0_2] 32 (0, 0)) (by (with_reducible repeat (first | refine blk_drewN ?_ _ | refine blk_drew ?_ | refine blk_alloc ?_ _)); refine blk_far ?_ NB467_483.out _; (with_reducible repeat (first | refine blk_drewN ?_ _ | refine blk_drew ?_ | refine blk_alloc ?_ _)); refine blk_far ?_ NB467_483.out _; (with_reducible repeat (first | refine blk_drewN ?_ _ | refine blk_drew ?_ | refine blk_alloc ?_ _)); refine blk_far ?_ NB467_483.out _; (with_reducible repeat (first | refine blk_drewN ?_ _ | refine blk_drew ?_ | refine blk_alloc ?_ _)); exact BK467.out) hb); have n5_ := Aside0.mk (blk_below (g := gb483) (o := .cells #[.int .i64 t477, .int .i64 t478, .slice Ao30 t479.length co30] 24 (0, 0)) (by (with_reducible repeat (first | refine blk_drewN ?_ _ | refine blk_drew ?_ | refine blk_alloc ?_ _)); refine blk_put (cs := #[.int .i64 t477, .int .i64 t478, .slice none 0 0]) ?_ 2 _ rfl; (with_reducible repeat (first | refine blk_drewN ?_ _ | refine blk_drew ?_ | refine blk_alloc ?_ _)); refine blk_put (cs := #[.int .i64 t477, .int .i64 0, .slice none 0 0]) ?_ 1 _ rfl; (with_reducible repeat (first | refine blk_drewN ?_ _ | refine blk_drew ?_ | refine blk_alloc ?_ _)); refine blk_put (cs := #[.int .i64 0, .int .i64 0, .slice none 0 0]) ?_ 0 _ rfl; (with_reducible repeat (first | refine blk_drewN ?_ _ | refine blk_drew ?_ | refine blk_alloc ?_ _)); exact BK483.out) hb); have n6_ := Aside0.mk (below_step (by repeat (first | (with_reducible first | exact HB.out | apply below_alloc | apply pw_below_drewN | apply below_drew1 | refine below_set ?_ GE467.out | refine below_set ?_ GE483.out) | exact HB.out)) hb); clear HO473; clear HO476; clear HO481; clear BK467; clear BK483; clear HB; have HO473 := n0_; have HO476 := n1_; have HO481 := n2_; have HO488 := n3_; have BK467 := n4_; have BK483 := n5_; have HB := n6_; clear n0_ n1_ n2_ n3_ n4_ n5_ n6_; (try clear hb); (try clear hb2); (try clear hk); (try clear hi); (try clear ho0)) | ((with_reducible refine gate_dst (N := 10) rfl ?_); refine box_event ?hg (N := 10) ?hd (cs := #[.int .i64 0, .int .i64 0, .slice none 0 0]) (t := 24) ?hr ?_; (case hd => rfl); (case hg => rfl); (case hr => first | (go_simp; done) | (go_simp; rfl)); intro gb489 hg w33 hbox hb; have n0_ := Aside0.mk (Kd.R_below (by (with_reducible repeat (first | apply Kd.R_alloc | apply Kd.R_drewN | apply Kd.R_drew)); exact HO473.out) hb); have n1_ := Aside0.mk (Kd.R_below (by (with_reducible repeat (first | apply Kd.R_alloc | apply Kd.R_drewN | apply Kd.R_drew)); exact HO476.out) hb); have n2_ := Aside0.mk (Kd.R_below (by (with_reducible repeat (first | apply Kd.R_alloc | apply Kd.R_drewN | apply Kd.R_drew)); exact HO481.out) hb); have n3_ := Aside0.mk (Kd.R_below (by (with_reducible repeat (first | apply Kd.R_alloc | apply Kd.R_drewN | apply Kd.R_drew)); exact HO488.out) hb); have n4_ := Aside0.mk (blk_below (g := gb467) (o := .cells #[.int .i64 a0_0, .int .i64 a0_1, .slice A0_2 l0_2.length c0_2] 32 (0, 0)) (by (with_reducible repeat (first | refine blk_drewN ?_ _ | refine blk_drew ?_ | refine blk_alloc ?_ _)); exact BK467.out) hb); have n5_ := Aside0.mk (blk_below (g := gb483) (o := .cells #[.int .i64 t477, .int .i64 t478, .slice Ao30 t479.length co30] 24 (0, 0)) (by (with_reducible repeat (first | refine blk_drewN ?_ _ | refine blk_drew ?_ | refine blk_alloc ?_ _)); exact BK483.out) hb); have n6_ := Aside0.mk (below_step (by repeat (first | (with_reducible first | exact HB.out | apply below_alloc | apply pw_below_drewN | apply below_drew1 | refine below_set ?_ GE467.out | refine below_set ?_ GE483.out) | exact HB.out)) hb); have n7_ := Aside0.mk (hbox); have n8_ := Aside0.mk ((by rw [hg]; exact (below_size (by repeat (first | (with_reducible first | exact HB.out | apply below_alloc | apply pw_below_drewN | apply below_drew1 | refine below_set ?_ GE467.out | refine below_set ?_ GE483.out) | exact HB.out))) : w.heap.size ≤ gb489)); have n9_ := Aside0.mk ((by rw [hg]; exact (below_size (by repeat (first | (with_reducible first | exact HB.out | apply below_alloc | apply pw_below_drewN | apply below_drew1 | refine below_set ?_ GE467.out | refine below_set ?_ GE483.out) | exact HB.out))) : w.heap.size ≤ gb489)); have n10_ := Aside0.mk ((by rw [hg]; exact Nat.ne_of_lt (blk_lt (g := gb467) (o := .cells #[.int .i64 a0_0, .int .i64 a0_1, .slice A0_2 l0_2.length c0_2] 32 (0, 0)) (by (with_reducible repeat (first | refine blk_drewN ?_ _ | refine blk_drew ?_ | refine blk_alloc ?_ _)); exact BK467.out)) : gb467 ≠ gb489)); have n11_ := Aside0.mk ((by rw [hg]; exact Nat.ne_of_gt (blk_lt (g := gb467) (o := .cells #[.int .i64 a0_0, .int .i64 a0_1, .slice A0_2 l0_2.length c0_2] 32 (0, 0)) (by (with_reducible repeat (first | refine blk_drewN ?_ _ | refine blk_drew ?_ | refine blk_alloc ?_ _)); exact BK467.out)) : gb489 ≠ gb467)); have n12_ := Aside0.mk ((by rw [hg]; exact Nat.ne_of_lt (blk_lt (g := gb483) (o := .cells #[.int .i64 t477, .int .i64 t478, .slice Ao30 t479.length co30] 24 (0, 0)) (by (with_reducible repeat (first | refine blk_drewN ?_ _ | refine blk_drew ?_ | refine blk_alloc ?_ _)); exact BK483.out)) : gb483 ≠ gb489)); have n13_ := Aside0.mk ((by rw [hg]; exact Nat.ne_of_gt (blk_lt (g := gb483) (o := .cells #[.int .i64 t477, .int .i64 t478, .slice Ao30 t479.length co30] 24 (0, 0)) (by (with_reducible repeat (first | refine blk_drewN ?_ _ | refine blk_drew ?_ | refine blk_alloc ?_ _)); exact BK483.out)) : gb489 ≠ gb483)); clear HO473; clear HO476; clear HO481; clear HO488; clear BK467; clear BK483; clear HB; have HO473 := n0_; have HO476 := n1_; have HO481 := n2_; have HO488 := n3_; have BK467 := n4_; have BK483 := n5_; have HB := n6_; have BK489 := n7_; have GW489 := n8_; have GE489 := n9_; have NB467_489 := n10_; have NB489_467 := n11_; have NB483_489 := n12_; have NB489_483 := n13_; clear n0_ n1_ n2_ n3_ n4_ n5_ n6_ n7_ n8_ n9_ n10_ n11_ n12_ n13_; clear hb hbox hg; have hnb34 := NB489_467.out; have hnc34 := NB467_489.out; have hnb35 := NB489_483.out; have hnc35 := NB483_489.out; have hcz36_0 : w33.cell? ⟨gb489, 0, none⟩ = some (.int .i64 0) := (blk_cell BK489.out 0).trans rfl; have hcz36_1 : w33.cell? ⟨gb489, 1, none⟩ = some (.int .i64 0) := (blk_cell BK489.out 1).trans rfl; have hcz36_2 : w33.cell? ⟨gb489, 2, none⟩ = some (.slice none 0 0) := (blk_cell BK489.out 2).trans rfl; have hfz36_0 := blk_frozen BK489.out 0; have hfz36_1 := blk_frozen BK489.out 1; have hfz36_2 := blk_frozen BK489.out 2; obtain ⟨Ao37, co37, eo37⟩ := Kd.R_slice HO488.out; subst eo37) | ((with_reducible refine gate_callee (f := 25) rfl ?_); refine goesL_ (some 39) rfl rfl Try.func25 (by kernel_rfl) rfl #[.slice A1 l1.length c1] rfl (by (try simp only [List.map_toArray, List.map_cons, List.map_nil]); first | done | rfl | (simp only [List.length_drop, List.length_take]; rfl)) ?_; (with_reducible refine (laws_toIntS.calls k _ _ l1 t490 _ ?side1 ?side2 A15.out).mono ?_); (case side1 => exact Kd.C_below HR1.out (by repeat (first | (with_reducible first | exact HB.out | apply below_alloc | apply pw_below_drewN | apply below_drew1 | refine below_set ?_ GE467.out | refine below_set ?_ GE483.out | refine below_set ?_ GE489.out) | exact HB.out))); (case side2 => exact HC1.out); rintro e w38 ⟨v491, rfl, ho0, hb⟩; refine ⟨_, rfl, ?_⟩; have n0_ := Aside0.mk (Kd.R_below (by (with_reducible repeat (first | apply Kd.R_alloc | apply Kd.R_drewN | apply Kd.R_drew)); exact (Kd.R_mono (Kd.R_far (p := ⟨gb489, 2, none⟩) (Kd.R_far (p := ⟨gb489, 1, none⟩) (Kd.R_far (p := ⟨gb489, 0, none⟩) (Kd.R_types HO473.out BK489.out (by decide)) (fun _ hk => hk.2) (.int .i64 t484)) (fun _ hk => hk.2) (.int .i64 t485)) (fun _ hk => hk.2) (.slice Ao37 t486.length co37)) (fun _ h_ => h_.1))) hb); have n1_ := Aside0.mk (Kd.R_elder' (by (with_reducible repeat (first | apply Kd.R_alloc | apply Kd.R_drewN | apply Kd.R_drew)); exact (Kd.R_mono (Kd.R_far (p := ⟨gb489, 2, none⟩) (Kd.R_far (p := ⟨gb489, 1, none⟩) (Kd.R_far (p := ⟨gb489, 0, none⟩) (Kd.R_types HO476.out BK489.out (by decide)) (fun _ hk => hk.2) (.int .i64 t484)) (fun _ hk => hk.2) (.int .i64 t485)) (fun _ hk => hk.2) (.slice Ao37 t486.length co37)) (fun _ h_ => h_.1))) (Kd.R_base ho0) hb); have n2_ := Aside0.mk (Kd.R_below (by (with_reducible repeat (first | apply Kd.R_alloc | apply Kd.R_drewN | apply Kd.R_drew)); exact (Kd.R_mono (Kd.R_far (p := ⟨gb489, 2, none⟩) (Kd.R_far (p := ⟨gb489, 1, none⟩) (Kd.R_far (p := ⟨gb489, 0, none⟩) (Kd.R_types HO481.out BK489.out (by decide)) (fun _ hk => hk.2) (.int .i64 t484)) (fun _ hk => hk.2) (.int .i64 t485)) (fun _ hk => hk.2) (.slice Ao37 t486.length co37)) (fun _ h_ => h_.1))) hb); have n3_ := Aside0.mk (Kd.R_below (by (with_reducible repeat (first | apply Kd.R_alloc | apply Kd.R_drewN | apply Kd.R_drew)); exact (Kd.R_mono (Kd.R_far (p := ⟨gb489, 2, none⟩) (Kd.R_far (p := ⟨gb489, 1, none⟩) (Kd.R_far (p := ⟨gb489, 0, none⟩) (Kd.R_types HO488.out BK489.out (by decide)) (fun _ hk => hk.2) (.int .i64 t484)) (fun _ hk => hk.2) (.int .i64 t485)) (fun _ hk => hk.2) (.slice Ao37 t486.length co37)) (fun _ h_ => h_.1))) hb); have n4_ := Aside0.mk (Kd.R_lower (Kd.R_new' ho0 (Kd.R_lt (by (with_reducible repeat (first | apply Kd.R_alloc | apply Kd.R_drewN | apply Kd.R_drew)); exact (Kd.R_mono (Kd.R_far (p := ⟨gb489, 2, none⟩) (Kd.R_far (p := ⟨gb489, 1, none⟩) (Kd.R_far (p := ⟨gb489, 0, none⟩) (Kd.R_types HO476.out BK489.out (by decide)) (fun _ hk => hk.2) (.int .i64 t484)) (fun _ hk => hk.2) (.int .i64 t485)) (fun _ hk => hk.2) (.slice Ao37 t486.length co37)) (fun _ h_ => h_.1))))) (below_size (by repeat (first | (with_reducible first | exact HB.out | apply below_alloc | apply pw_below_drewN | apply below_drew1 | refine below_set ?_ GE467.out | refine below_set ?_ GE483.out | refine below_set ?_ GE489.out) | exact HB.out)))); have n5_ := Aside0.mk (blk_below (g := gb467) (o := .cells #[.int .i64 a0_0, .int .i64 a0_1, .slice A0_2 l0_2.length c0_2] 32 (0, 0)) (by (with_reducible repeat (first | refine blk_drewN ?_ _ | refine blk_drew ?_ | refine blk_alloc ?_ _)); refine blk_far ?_ NB467_489.out _; (with_reducible repeat (first | refine blk_drewN ?_ _ | refine blk_drew ?_ | refine blk_alloc ?_ _)); refine blk_far ?_ NB467_489.out _; (with_reducible repeat (first | refine blk_drewN ?_ _ | refine blk_drew ?_ | refine blk_alloc ?_ _)); refine blk_far ?_ NB467_489.out _; (with_reducible repeat (first | refine blk_drewN ?_ _ | refine blk_drew ?_ | refine blk_alloc ?_ _)); exact BK467.out) hb); have n6_ := Aside0.mk (blk_below (g := gb483) (o := .cells #[.int .i64 t477, .int .i64 t478, .slice Ao30 t479.length co30] 24 (0, 0)) (by (with_reducible repeat (first | refine blk_drewN ?_ _ | refine blk_drew ?_ | refine blk_alloc ?_ _)); refine blk_far ?_ NB483_489.out _; (with_reducible repeat (first | refine blk_drewN ?_ _ | refine blk_drew ?_ | refine blk_alloc ?_ _)); refine blk_far ?_ NB483_489.out _; (with_reducible repeat (first | refine blk_drewN ?_ _ | refine blk_drew ?_ | refine blk_alloc ?_ _)); refine blk_far ?_ NB483_489.out _; (with_reducible repeat (first | refine blk_drewN ?_ _ | refine blk_drew ?_ | refine blk_alloc ?_ _)); exact BK483.out) hb); have n7_ := Aside0.mk (blk_below (g := gb489) (o := .cells #[.int .i64 t484, .int .i64 t485, .slice Ao37 t486.length co37] 24 (0, 0)) (by (with_reducible repeat (first | refine blk_drewN ?_ _ | refine blk_drew ?_ | refine blk_alloc ?_ _)); refine blk_put (cs := #[.int .i64 t484, .int .i64 t485, .slice none 0 0]) ?_ 2 _ rfl; (with_reducible repeat (first | refine blk_drewN ?_ _ | refine blk_drew ?_ | refine blk_alloc ?_ _)); refine blk_put (cs := #[.int .i64 t484, .int .i64 0, .slice none 0 0]) ?_ 1 _ rfl; (with_reducible repeat (first | refine blk_drewN ?_ _ | refine blk_drew ?_ | refine blk_alloc ?_ _)); refine blk_put (cs := #[.int .i64 0, .int .i64 0, .slice none 0 0]) ?_ 0 _ rfl; (with_reducible repeat (first | refine blk_drewN ?_ _ | refine blk_drew ?_ | refine blk_alloc ?_ _)); exact BK489.out) hb); have n8_ := Aside0.mk (below_step (by repeat (first | (with_reducible first | exact HB.out | apply below_alloc | apply pw_below_drewN | apply below_drew1 | refine below_set ?_ GE467.out | refine below_set ?_ GE483.out | refine below_set ?_ GE489.out) | exact HB.out)) hb); clear HO473; clear HO476; clear HO481; clear HO488; clear BK467; clear BK483; clear BK489; clear HB; have HO473 := n0_; have HO476 := n1_; have HO481 := n2_; have HO488 := n3_; have HO492 := n4_; have BK467 := n5_; have BK483 := n6_; have BK489 := n7_; have HB := n8_; clear n0_ n1_ n2_ n3_ n4_ n5_ n6_ n7_ n8_; (try clear hb); (try clear hb2); (try clear hk); (try clear hi); (try clear ho0); have hcz39_0 : w38.cell? ⟨gb489, 0, none⟩ = some (.int .i64 t484) := (blk_cell BK489.out 0).trans rfl; have hcz39_1 : w38.cell? ⟨gb489, 1, none⟩ = some (.int .i64 t485) := (blk_cell BK489.out 1).trans rfl; have hcz39_2 : w38.cell? ⟨gb489, 2, none⟩ = some (.slice Ao37 t486.length co37) := (blk_cell BK489.out 2).trans rfl; have hfz39_0 := blk_frozen BK489.out 0; have hfz39_1 := blk_frozen BK489.out 1; have hfz39_2 := blk_frozen BK489.out 2; obtain ⟨Ao40, co40, eo40⟩ := Kd.R_slice HO492.out; subst eo40) | ((with_reducible refine gate_callee (f := 29) rfl ?_); refine goesL_ (some 44) rfl rfl Try.func29 (by kernel_rfl) rfl #[.agg #[.int .i64 t484, .int .i64 t485, .slice Ao37 t486.length co37], .slice Ao40 t490.length co40, .int .i64 a2] rfl (by (try simp only [List.map_toArray, List.map_cons, List.map_nil]); first | done | rfl | (simp only [List.length_drop, List.length_take]; rfl)) ?_; (with_reducible refine (impl_WithBitsValue.calls k t484 t485 _ _ t486 _ _ t490 a2 t493 t494 t495 t498 _ ?side1 ?side2 ?side3 ?side4 A16.out).mono ?_); (case side1 => repeat (first | exact (Kd.R_reads' HO488.out).2.2 | (with_reducible refine Kd.C_alloc ?_ _) | (with_reducible refine Kd.C_drewN ?_ _) | (with_reducible refine Kd.C_drew ?_))); (case side2 => exact (Kd.R_reads' HO488.out).2.1); (case side3 => repeat (first | exact (Kd.R_reads' HO492.out).2.2 | (with_reducible refine Kd.C_alloc ?_ _) | (with_reducible refine Kd.C_drewN ?_ _) | (with_reducible refine Kd.C_drew ?_))); (case side4 => exact (Kd.R_reads' HO492.out).2.1); rintro e w41 ⟨v496, rfl, ho0, hb⟩; refine ⟨_, rfl, ?_⟩; have n0_ := Aside0.mk (Kd.R_elder' (by (with_reducible repeat (first | apply Kd.R_alloc | apply Kd.R_drewN | apply Kd.R_drew)); exact HO473.out) (Kd.R_base ho0) hb); have n1_ := Aside0.mk (Kd.R_below (by (with_reducible repeat (first | apply Kd.R_alloc | apply Kd.R_drewN | apply Kd.R_drew)); exact HO476.out) hb); have n2_ := Aside0.mk (Kd.R_elder' (by (with_reducible repeat (first | apply Kd.R_alloc | apply Kd.R_drewN | apply Kd.R_drew)); exact HO481.out) (Kd.R_base ho0) hb); have n3_ := Aside0.mk (Kd.R_elder' (by (with_reducible repeat (first | apply Kd.R_alloc | apply Kd.R_drewN | apply Kd.R_drew)); exact HO488.out) (Kd.R_base ho0) hb); have n4_ := Aside0.mk (Kd.R_below (by (with_reducible repeat (first | apply Kd.R_alloc | apply Kd.R_drewN | apply Kd.R_drew)); exact HO492.out) hb); have n5_ := Aside0.mk (Kd.R_lower (Kd.R_new' (Kd.R_new' (Kd.R_new' ho0 (Kd.R_lt (by (with_reducible repeat (first | apply Kd.R_alloc | apply Kd.R_drewN | apply Kd.R_drew)); exact HO473.out))) (Kd.R_lt (by (with_reducible repeat (first | apply Kd.R_alloc | apply Kd.R_drewN | apply Kd.R_drew)); exact HO481.out))) (Kd.R_lt (by (with_reducible repeat (first | apply Kd.R_alloc | apply Kd.R_drewN | apply Kd.R_drew)); exact HO488.out))) (below_size (by repeat (first | (with_reducible first | exact HB.out | apply below_alloc | apply pw_below_drewN | apply below_drew1 | refine below_set ?_ GE467.out | refine below_set ?_ GE483.out | refine below_set ?_ GE489.out) | exact HB.out)))); have n6_ := Aside0.mk (blk_below (g := gb467) (o := .cells #[.int .i64 a0_0, .int .i64 a0_1, .slice A0_2 l0_2.length c0_2] 32 (0, 0)) (by (with_reducible repeat (first | refine blk_drewN ?_ _ | refine blk_drew ?_ | refine blk_alloc ?_ _)); exact BK467.out) hb); have n7_ := Aside0.mk (blk_below (g := gb483) (o := .cells #[.int .i64 t477, .int .i64 t478, .slice Ao30 t479.length co30] 24 (0, 0)) (by (with_reducible repeat (first | refine blk_drewN ?_ _ | refine blk_drew ?_ | refine blk_alloc ?_ _)); exact BK483.out) hb); have n8_ := Aside0.mk (blk_below (g := gb489) (o := .cells #[.int .i64 t484, .int .i64 t485, .slice Ao37 t486.length co37] 24 (0, 0)) (by (with_reducible repeat (first | refine blk_drewN ?_ _ | refine blk_drew ?_ | refine blk_alloc ?_ _)); exact BK489.out) hb); have n9_ := Aside0.mk (below_step (by repeat (first | (with_reducible first | exact HB.out | apply below_alloc | apply pw_below_drewN | apply below_drew1 | refine below_set ?_ GE467.out | refine below_set ?_ GE483.out | refine below_set ?_ GE489.out) | exact HB.out)) hb); clear HO473; clear HO476; clear HO481; clear HO488; clear HO492; clear BK467; clear BK483; clear BK489; clear HB; have HO473 := n0_; have HO476 := n1_; have HO481 := n2_; have HO488 := n3_; have HO492 := n4_; have HO497 := n5_; have BK467 := n6_; have BK483 := n7_; have BK489 := n8_; have HB := n9_; clear n0_ n1_ n2_ n3_ n4_ n5_ n6_ n7_ n8_ n9_; (try clear hb); (try clear hb2); (try clear hk); (try clear hi); (try clear ho0)) | ((with_reducible refine gate_dst (N := 12) rfl ?_); refine box_event ?hg (N := 12) ?hd (cs := #[.int .i64 0, .int .i64 0, .slice none 0 0]) (t := 24) ?hr ?_; (case hd => rfl); (case hg => rfl); (case hr => first | (go_simp; done) | (go_simp; rfl)); intro gb499 hg w42 hbox hb; have n0_ := Aside0.mk (Kd.R_below (by (with_reducible repeat (first | apply Kd.R_alloc | apply Kd.R_drewN | apply Kd.R_drew)); exact HO473.out) hb); have n1_ := Aside0.mk (Kd.R_below (by (with_reducible repeat (first | apply Kd.R_alloc | apply Kd.R_drewN | apply Kd.R_drew)); exact HO476.out) hb); have n2_ := Aside0.mk (Kd.R_below (by (with_reducible repeat (first | apply Kd.R_alloc | apply Kd.R_drewN | apply Kd.R_drew)); exact HO481.out) hb); have n3_ := Aside0.mk (Kd.R_below (by (with_reducible repeat (first | apply Kd.R_alloc | apply Kd.R_drewN | apply Kd.R_drew)); exact HO488.out) hb); have n4_ := Aside0.mk (Kd.R_below (by (with_reducible repeat (first | apply Kd.R_alloc | apply Kd.R_drewN | apply Kd.R_drew)); exact HO492.out) hb); have n5_ := Aside0.mk (Kd.R_below (by (with_reducible repeat (first | apply Kd.R_alloc | apply Kd.R_drewN | apply Kd.R_drew)); exact HO497.out) hb); have n6_ := Aside0.mk (blk_below (g := gb467) (o := .cells #[.int .i64 a0_0, .int .i64 a0_1, .slice A0_2 l0_2.length c0_2] 32 (0, 0)) (by (with_reducible repeat (first | refine blk_drewN ?_ _ | refine blk_drew ?_ | refine blk_alloc ?_ _)); exact BK467.out) hb); have n7_ := Aside0.mk (blk_below (g := gb483) (o := .cells #[.int .i64 t477, .int .i64 t478, .slice Ao30 t479.length co30] 24 (0, 0)) (by (with_reducible repeat (first | refine blk_drewN ?_ _ | refine blk_drew ?_ | refine blk_alloc ?_ _)); exact BK483.out) hb); have n8_ := Aside0.mk (blk_below (g := gb489) (o := .cells #[.int .i64 t484, .int .i64 t485, .slice Ao37 t486.length co37] 24 (0, 0)) (by (with_reducible repeat (first | refine blk_drewN ?_ _ | refine blk_drew ?_ | refine blk_alloc ?_ _)); exact BK489.out) hb); have n9_ := Aside0.mk (below_step (by repeat (first | (with_reducible first | exact HB.out | apply below_alloc | apply pw_below_drewN | apply below_drew1 | refine below_set ?_ GE467.out | refine below_set ?_ GE483.out | refine below_set ?_ GE489.out) | exact HB.out)) hb); have n10_ := Aside0.mk (hbox); have n11_ := Aside0.mk ((by rw [hg]; exact (below_size (by repeat (first | (with_reducible first | exact HB.out | apply below_alloc | apply pw_below_drewN | apply below_drew1 | refine below_set ?_ GE467.out | refine below_set ?_ GE483.out | refine below_set ?_ GE489.out) | exact HB.out))) : w.heap.size ≤ gb499)); have n12_ := Aside0.mk ((by rw [hg]; exact (below_size (by repeat (first | (with_reducible first | exact HB.out | apply below_alloc | apply pw_below_drewN | apply below_drew1 | refine below_set ?_ GE467.out | refine below_set ?_ GE483.out | refine below_set ?_ GE489.out) | exact HB.out))) : w.heap.size ≤ gb499)); have n13_ := Aside0.mk ((by rw [hg]; exact Nat.ne_of_lt (blk_lt (g := gb467) (o := .cells #[.int .i64 a0_0, .int .i64 a0_1, .slice A0_2 l0_2.length c0_2] 32 (0, 0)) (by (with_reducible repeat (first | refine blk_drewN ?_ _ | refine blk_drew ?_ | refine blk_alloc ?_ _)); exact BK467.out)) : gb467 ≠ gb499)); have n14_ := Aside0.mk ((by rw [hg]; exact Nat.ne_of_gt (blk_lt (g := gb467) (o := .cells #[.int .i64 a0_0, .int .i64 a0_1, .slice A0_2 l0_2.length c0_2] 32 (0, 0)) (by (with_reducible repeat (first | refine blk_drewN ?_ _ | refine blk_drew ?_ | refine blk_alloc ?_ _)); exact BK467.out)) : gb499 ≠ gb467)); have n15_ := Aside0.mk ((by rw [hg]; exact Nat.ne_of_lt (blk_lt (g := gb483) (o := .cells #[.int .i64 t477, .int .i64 t478, .slice Ao30 t479.length co30] 24 (0, 0)) (by (with_reducible repeat (first | refine blk_drewN ?_ _ | refine blk_drew ?_ | refine blk_alloc ?_ _)); exact BK483.out)) : gb483 ≠ gb499)); have n16_ := Aside0.mk ((by rw [hg]; exact Nat.ne_of_gt (blk_lt (g := gb483) (o := .cells #[.int .i64 t477, .int .i64 t478, .slice Ao30 t479.length co30] 24 (0, 0)) (by (with_reducible repeat (first | refine blk_drewN ?_ _ | refine blk_drew ?_ | refine blk_alloc ?_ _)); exact BK483.out)) : gb499 ≠ gb483)); have n17_ := Aside0.mk ((by rw [hg]; exact Nat.ne_of_lt (blk_lt (g := gb489) (o := .cells #[.int .i64 t484, .int .i64 t485, .slice Ao37 t486.length co37] 24 (0, 0)) (by (with_reducible repeat (first | refine blk_drewN ?_ _ | refine blk_drew ?_ | refine blk_alloc ?_ _)); exact BK489.out)) : gb489 ≠ gb499)); have n18_ := Aside0.mk ((by rw [hg]; exact Nat.ne_of_gt (blk_lt (g := gb489) (o := .cells #[.int .i64 t484, .int .i64 t485, .slice Ao37 t486.length co37] 24 (0, 0)) (by (with_reducible repeat (first | refine blk_drewN ?_ _ | refine blk_drew ?_ | refine blk_alloc ?_ _)); exact BK489.out)) : gb499 ≠ gb489)); clear HO473; clear HO476; clear HO481; clear HO488; clear HO492; clear HO497; clear BK467; clear BK483; clear BK489; clear HB; have HO473 := n0_; have HO476 := n1_; have HO481 := n2_; have HO488 := n3_; have HO492 := n4_; have HO497 := n5_; have BK467 := n6_; have BK483 := n7_; have BK489 := n8_; have HB := n9_; have BK499 := n10_; have GW499 := n11_; have GE499 := n12_; have NB467_499 := n13_; have NB499_467 := n14_; have NB483_499 := n15_; have NB499_483 := n16_; have NB489_499 := n17_; have NB499_489 := n18_; clear n0_ n1_ n2_ n3_ n4_ n5_ n6_ n7_ n8_ n9_ n10_ n11_ n12_ n13_ n14_ n15_ n16_ n17_ n18_; clear hb hbox hg; have hnb43 := NB499_467.out; have hnc43 := NB467_499.out; have hnb44 := NB499_483.out; have hnc44 := NB483_499.out; have hnb45 := NB499_489.out; have hnc45 := NB489_499.out; have hcz46_0 : w42.cell? ⟨gb499, 0, none⟩ = some (.int .i64 0) := (blk_cell BK499.out 0).trans rfl; have hcz46_1 : w42.cell? ⟨gb499, 1, none⟩ = some (.int .i64 0) := (blk_cell BK499.out 1).trans rfl; have hcz46_2 : w42.cell? ⟨gb499, 2, none⟩ = some (.slice none 0 0) := (blk_cell BK499.out 2).trans rfl; have hfz46_0 := blk_frozen BK499.out 0; have hfz46_1 := blk_frozen BK499.out 1; have hfz46_2 := blk_frozen BK499.out 2; obtain ⟨Ao47, co47, eo47⟩ := Kd.R_slice HO497.out; subst eo47))
      (try simp only [Act.put, List.setIfInBounds_toArray, List.set_cons_zero, List.set_cons_succ])
      go_cut [55] (fun v55 wc => ∃ (kq : Nat) (x55_16 : Bool), v55 = .bool x55_16 ∧ Aside0 (lw.j0 kq l1 a2 t482 t490 t498 x55_16 a0_0 a0_1 l0_2 t477 t478 t479 t484 t485 t486 t493 t494 t495 = some r) ∧ Aside0 (kq ≤ k) ∧ Aside0 (Kd.R (Kd.int .i64) 3 wc w.heap.size (fun _ => True) (.slice Ao40 t490.length co40) t490) ∧ Aside0 (Kd.R k71 71 wc w.heap.size (fun k_ => some k_ ≠ ((.slice Ao37 t486.length co37) : Value).ownBlock ∧ some k_ ≠ ((.slice Ao47 t495.length co47) : Value).ownBlock) (.slice Ao30 t479.length co30) t479) ∧ Aside0 (Kd.R k71 71 wc w.heap.size (fun k_ => some k_ ≠ ((.slice Ao30 t479.length co30) : Value).ownBlock ∧ some k_ ≠ ((.slice Ao47 t495.length co47) : Value).ownBlock) (.slice Ao37 t486.length co37) t486) ∧ Aside0 (Kd.R k71 71 wc w.heap.size (fun k_ => some k_ ≠ ((.slice Ao30 t479.length co30) : Value).ownBlock ∧ some k_ ≠ ((.slice Ao37 t486.length co37) : Value).ownBlock) (.slice Ao47 t495.length co47) t495) ∧ Aside0 (wc.heap[gb467]? = some (.cells #[.int .i64 a0_0, .int .i64 a0_1, (.slice A0_2 l0_2.length c0_2)] 32 (0, 0))) ∧ Aside0 (wc.heap[gb483]? = some (.cells #[.int .i64 t477, .int .i64 t478, (.slice Ao30 t479.length co30)] 24 (0, 0))) ∧ Aside0 (wc.heap[gb489]? = some (.cells #[.int .i64 t484, .int .i64 t485, (.slice Ao37 t486.length co37)] 24 (0, 0))) ∧ Aside0 (wc.heap[gb499]? = some (.cells #[.int .i64 t493, .int .i64 t494, (.slice Ao47 t495.length co47)] 24 (0, 0))) ∧ Aside0 (Below w.heap.size w wc))
      case first =>
        have H := HC17.out
        clear HC17
        replace H := Option.bind_eq_some_iff.mp H
        obtain ⟨t500, A480, H⟩ := H
        replace H : (if t500 = true then (lw.j0 k l1 a2 t482 t490 t498 (t498 != t482) a0_0 a0_1 l0_2 t477 t478 t479 t484 t485 t486 t493 t494 t495) else (lw.j0 k l1 a2 t482 t490 t498 true a0_0 a0_1 l0_2 t477 t478 t479 t484 t485 t486 t493 t494 t495)) = some r := H
        have A48 := Aside0.mk A480
        clear A480
        by_cases c49 : t500 = true
        · subst c49
          have H1 : (lw.j0 k l1 a2 t482 t490 t498 (t498 != t482) a0_0 a0_1 l0_2 t477 t478 t479 t484 t485 t486 t493 t494 t495) = some r := by rw [if_pos rfl] at H; exact H
          clear H
          have H := H1
          clear H1
          have H' := Aside0.mk H
          clear H
          have hnb50 := NB499_467.out
          have hnc50 := NB467_499.out
          have hnb51 := NB499_483.out
          have hnc51 := NB483_499.out
          have hnb52 := NB499_489.out
          have hnc52 := NB489_499.out
          have hcz53_0 : w42.cell? ⟨gb499, 0, none⟩ = some (.int .i64 0) := (blk_cell BK499.out 0).trans rfl
          have hcz53_1 : w42.cell? ⟨gb499, 1, none⟩ = some (.int .i64 0) := (blk_cell BK499.out 1).trans rfl
          have hcz53_2 : w42.cell? ⟨gb499, 2, none⟩ = some (.slice none 0 0) := (blk_cell BK499.out 2).trans rfl
          have hfz53_0 := blk_frozen BK499.out 0
          have hfz53_1 := blk_frozen BK499.out 1
          have hfz53_2 := blk_frozen BK499.out 2
          have hnb54 := NB483_467.out
          have hnc54 := NB467_483.out
          have hnb55 := NB483_489.out
          have hnc55 := NB489_483.out
          have hcz56_0 : w42.cell? ⟨gb483, 0, none⟩ = some (.int .i64 t477) := (blk_cell BK483.out 0).trans rfl
          have hcz56_1 : w42.cell? ⟨gb483, 1, none⟩ = some (.int .i64 t478) := (blk_cell BK483.out 1).trans rfl
          have hcz56_2 : w42.cell? ⟨gb483, 2, none⟩ = some (.slice Ao30 t479.length co30) := (blk_cell BK483.out 2).trans rfl
          have hfz56_0 := blk_frozen BK483.out 0
          have hfz56_1 := blk_frozen BK483.out 1
          have hfz56_2 := blk_frozen BK483.out 2
          go_wp2_with (first | ((with_reducible refine gate_callee (f := 15) rfl ?_); refine goesL_ (some 49) rfl rfl Try.func15 (by kernel_rfl) rfl #[.agg #[.int .i64 t493, .int .i64 t494, .slice Ao47 t495.length co47], .agg #[.int .i64 t477, .int .i64 t478, .slice Ao30 t479.length co30]] rfl (by (try simp only [List.map_toArray, List.map_cons, List.map_nil]); first | done | rfl | (simp only [List.length_drop, List.length_take]; rfl)) ?_; (with_reducible refine (laws_eqBoard.calls k t493 t494 _ _ t495 t477 t478 _ _ t479 true _ ?side1 ?side2 ?side3 ?side4 A48.out).mono ?_); (case side1 => refine (Kd.R_reads' (e := 71) (base := w.heap.size) (ok := fun k_ => (((True ∧ some k_ ≠ (.slice Ao24 t471.length co24 : Value).ownBlock) ∧ some k_ ≠ (.slice Ao30 t479.length co30 : Value).ownBlock) ∧ some k_ ≠ (.slice Ao37 t486.length co37 : Value).ownBlock)) (n := t495.length) (c := co47) ?_).2.2; exact (by (with_reducible repeat (first | apply Kd.R_alloc | apply Kd.R_drewN | apply Kd.R_drew)); exact (Kd.R_mono (Kd.R_far (p := ⟨gb499, 2, none⟩) (Kd.R_far (p := ⟨gb499, 1, none⟩) (Kd.R_far (p := ⟨gb499, 0, none⟩) (Kd.R_types HO497.out BK499.out (by decide)) (fun _ hk => hk.2) (.int .i64 t493)) (fun _ hk => hk.2) (.int .i64 t494)) (fun _ hk => hk.2) (.slice Ao47 t495.length co47)) (fun _ h_ => h_.1)))); (case side2 => exact (Kd.R_reads' HO497.out).2.1); (case side3 => refine (Kd.R_reads' (e := 71) (base := w.heap.size) (ok := fun k_ => (((True ∧ some k_ ≠ (.slice Ao24 t471.length co24 : Value).ownBlock) ∧ some k_ ≠ (.slice Ao37 t486.length co37 : Value).ownBlock) ∧ some k_ ≠ (.slice Ao47 t495.length co47 : Value).ownBlock)) (n := t479.length) (c := co30) ?_).2.2; exact (by (with_reducible repeat (first | apply Kd.R_alloc | apply Kd.R_drewN | apply Kd.R_drew)); exact (Kd.R_mono (Kd.R_far (p := ⟨gb499, 2, none⟩) (Kd.R_far (p := ⟨gb499, 1, none⟩) (Kd.R_far (p := ⟨gb499, 0, none⟩) (Kd.R_types HO481.out BK499.out (by decide)) (fun _ hk => hk.2) (.int .i64 t493)) (fun _ hk => hk.2) (.int .i64 t494)) (fun _ hk => hk.2) (.slice Ao47 t495.length co47)) (fun _ h_ => h_.1)))); (case side4 => exact (Kd.R_reads' HO481.out).2.1); rintro e w57 ⟨rfl, hb⟩; refine ⟨_, rfl, ?_⟩; have n0_ := Aside0.mk (Kd.R_below (by (with_reducible repeat (first | apply Kd.R_alloc | apply Kd.R_drewN | apply Kd.R_drew)); exact (Kd.R_mono (Kd.R_far (p := ⟨gb499, 2, none⟩) (Kd.R_far (p := ⟨gb499, 1, none⟩) (Kd.R_far (p := ⟨gb499, 0, none⟩) (Kd.R_types HO473.out BK499.out (by decide)) (fun _ hk => hk.2) (.int .i64 t493)) (fun _ hk => hk.2) (.int .i64 t494)) (fun _ hk => hk.2) (.slice Ao47 t495.length co47)) (fun _ h_ => h_.1))) hb); have n1_ := Aside0.mk (Kd.R_below (by (with_reducible repeat (first | apply Kd.R_alloc | apply Kd.R_drewN | apply Kd.R_drew)); exact (Kd.R_mono (Kd.R_far (p := ⟨gb499, 2, none⟩) (Kd.R_far (p := ⟨gb499, 1, none⟩) (Kd.R_far (p := ⟨gb499, 0, none⟩) (Kd.R_types HO476.out BK499.out (by decide)) (fun _ hk => hk.2) (.int .i64 t493)) (fun _ hk => hk.2) (.int .i64 t494)) (fun _ hk => hk.2) (.slice Ao47 t495.length co47)) (fun _ h_ => h_.1))) hb); have n2_ := Aside0.mk (Kd.R_below (by (with_reducible repeat (first | apply Kd.R_alloc | apply Kd.R_drewN | apply Kd.R_drew)); exact (Kd.R_mono (Kd.R_far (p := ⟨gb499, 2, none⟩) (Kd.R_far (p := ⟨gb499, 1, none⟩) (Kd.R_far (p := ⟨gb499, 0, none⟩) (Kd.R_types HO481.out BK499.out (by decide)) (fun _ hk => hk.2) (.int .i64 t493)) (fun _ hk => hk.2) (.int .i64 t494)) (fun _ hk => hk.2) (.slice Ao47 t495.length co47)) (fun _ h_ => h_.1))) hb); have n3_ := Aside0.mk (Kd.R_below (by (with_reducible repeat (first | apply Kd.R_alloc | apply Kd.R_drewN | apply Kd.R_drew)); exact (Kd.R_mono (Kd.R_far (p := ⟨gb499, 2, none⟩) (Kd.R_far (p := ⟨gb499, 1, none⟩) (Kd.R_far (p := ⟨gb499, 0, none⟩) (Kd.R_types HO488.out BK499.out (by decide)) (fun _ hk => hk.2) (.int .i64 t493)) (fun _ hk => hk.2) (.int .i64 t494)) (fun _ hk => hk.2) (.slice Ao47 t495.length co47)) (fun _ h_ => h_.1))) hb); have n4_ := Aside0.mk (Kd.R_below (by (with_reducible repeat (first | apply Kd.R_alloc | apply Kd.R_drewN | apply Kd.R_drew)); exact (Kd.R_mono (Kd.R_far (p := ⟨gb499, 2, none⟩) (Kd.R_far (p := ⟨gb499, 1, none⟩) (Kd.R_far (p := ⟨gb499, 0, none⟩) (Kd.R_types HO492.out BK499.out (by decide)) (fun _ hk => hk.2) (.int .i64 t493)) (fun _ hk => hk.2) (.int .i64 t494)) (fun _ hk => hk.2) (.slice Ao47 t495.length co47)) (fun _ h_ => h_.1))) hb); have n5_ := Aside0.mk (Kd.R_below (by (with_reducible repeat (first | apply Kd.R_alloc | apply Kd.R_drewN | apply Kd.R_drew)); exact (Kd.R_mono (Kd.R_far (p := ⟨gb499, 2, none⟩) (Kd.R_far (p := ⟨gb499, 1, none⟩) (Kd.R_far (p := ⟨gb499, 0, none⟩) (Kd.R_types HO497.out BK499.out (by decide)) (fun _ hk => hk.2) (.int .i64 t493)) (fun _ hk => hk.2) (.int .i64 t494)) (fun _ hk => hk.2) (.slice Ao47 t495.length co47)) (fun _ h_ => h_.1))) hb); have n6_ := Aside0.mk (blk_below (g := gb467) (o := .cells #[.int .i64 a0_0, .int .i64 a0_1, .slice A0_2 l0_2.length c0_2] 32 (0, 0)) (by (with_reducible repeat (first | refine blk_drewN ?_ _ | refine blk_drew ?_ | refine blk_alloc ?_ _)); refine blk_far ?_ NB467_499.out _; (with_reducible repeat (first | refine blk_drewN ?_ _ | refine blk_drew ?_ | refine blk_alloc ?_ _)); refine blk_far ?_ NB467_499.out _; (with_reducible repeat (first | refine blk_drewN ?_ _ | refine blk_drew ?_ | refine blk_alloc ?_ _)); refine blk_far ?_ NB467_499.out _; (with_reducible repeat (first | refine blk_drewN ?_ _ | refine blk_drew ?_ | refine blk_alloc ?_ _)); exact BK467.out) hb); have n7_ := Aside0.mk (blk_below (g := gb483) (o := .cells #[.int .i64 t477, .int .i64 t478, .slice Ao30 t479.length co30] 24 (0, 0)) (by (with_reducible repeat (first | refine blk_drewN ?_ _ | refine blk_drew ?_ | refine blk_alloc ?_ _)); refine blk_far ?_ NB483_499.out _; (with_reducible repeat (first | refine blk_drewN ?_ _ | refine blk_drew ?_ | refine blk_alloc ?_ _)); refine blk_far ?_ NB483_499.out _; (with_reducible repeat (first | refine blk_drewN ?_ _ | refine blk_drew ?_ | refine blk_alloc ?_ _)); refine blk_far ?_ NB483_499.out _; (with_reducible repeat (first | refine blk_drewN ?_ _ | refine blk_drew ?_ | refine blk_alloc ?_ _)); exact BK483.out) hb); have n8_ := Aside0.mk (blk_below (g := gb489) (o := .cells #[.int .i64 t484, .int .i64 t485, .slice Ao37 t486.length co37] 24 (0, 0)) (by (with_reducible repeat (first | refine blk_drewN ?_ _ | refine blk_drew ?_ | refine blk_alloc ?_ _)); refine blk_far ?_ NB489_499.out _; (with_reducible repeat (first | refine blk_drewN ?_ _ | refine blk_drew ?_ | refine blk_alloc ?_ _)); refine blk_far ?_ NB489_499.out _; (with_reducible repeat (first | refine blk_drewN ?_ _ | refine blk_drew ?_ | refine blk_alloc ?_ _)); refine blk_far ?_ NB489_499.out _; (with_reducible repeat (first | refine blk_drewN ?_ _ | refine blk_drew ?_ | refine blk_alloc ?_ _)); exact BK489.out) hb); have n9_ := Aside0.mk (blk_below (g := gb499) (o := .cells #[.int .i64 t493, .int .i64 t494, .slice Ao47 t495.length co47] 24 (0, 0)) (by (with_reducible repeat (first | refine blk_drewN ?_ _ | refine blk_drew ?_ | refine blk_alloc ?_ _)); refine blk_put (cs := #[.int .i64 t493, .int .i64 t494, .slice none 0 0]) ?_ 2 _ rfl; (with_reducible repeat (first | refine blk_drewN ?_ _ | refine blk_drew ?_ | refine blk_alloc ?_ _)); refine blk_put (cs := #[.int .i64 t493, .int .i64 0, .slice none 0 0]) ?_ 1 _ rfl; (with_reducible repeat (first | refine blk_drewN ?_ _ | refine blk_drew ?_ | refine blk_alloc ?_ _)); refine blk_put (cs := #[.int .i64 0, .int .i64 0, .slice none 0 0]) ?_ 0 _ rfl; (with_reducible repeat (first | refine blk_drewN ?_ _ | refine blk_drew ?_ | refine blk_alloc ?_ _)); exact BK499.out) hb); have n10_ := Aside0.mk (below_step (by repeat (first | (with_reducible first | exact HB.out | apply below_alloc | apply pw_below_drewN | apply below_drew1 | refine below_set ?_ GE467.out | refine below_set ?_ GE483.out | refine below_set ?_ GE489.out | refine below_set ?_ GE499.out) | exact HB.out)) hb); clear HO473; clear HO476; clear HO481; clear HO488; clear HO492; clear HO497; clear BK467; clear BK483; clear BK489; clear BK499; clear HB; have HO473 := n0_; have HO476 := n1_; have HO481 := n2_; have HO488 := n3_; have HO492 := n4_; have HO497 := n5_; have BK467 := n6_; have BK483 := n7_; have BK489 := n8_; have BK499 := n9_; have HB := n10_; clear n0_ n1_ n2_ n3_ n4_ n5_ n6_ n7_ n8_ n9_ n10_; (try clear hb); (try clear hb2); (try clear hk); (try clear hi)))
          go_meet
          case rel => exact ⟨_, ((t498 != t482)), (by first | rfl | (simp; done) | (simp [*]; done)), H', ⟨by first | omega | exact Nat.le_refl _⟩, ⟨by (with_reducible repeat (first | apply Kd.R_alloc | apply Kd.R_drewN | apply Kd.R_drew)); exact Kd.R_mono HO492.out (fun _ hk => trivial)⟩, ⟨by (with_reducible repeat (first | apply Kd.R_alloc | apply Kd.R_drewN | apply Kd.R_drew)); exact Kd.R_mono HO481.out (fun _ hk => ⟨hk.1.2, hk.2⟩)⟩, ⟨by (with_reducible repeat (first | apply Kd.R_alloc | apply Kd.R_drewN | apply Kd.R_drew)); exact Kd.R_mono HO488.out (fun _ hk => ⟨hk.1.2, hk.2⟩)⟩, ⟨by (with_reducible repeat (first | apply Kd.R_alloc | apply Kd.R_drewN | apply Kd.R_drew)); exact Kd.R_mono HO497.out (fun _ hk => ⟨hk.1.2, hk.2⟩)⟩, ⟨by (with_reducible repeat (first | refine blk_drewN ?_ _ | refine blk_drew ?_ | refine blk_alloc ?_ _)); exact BK467.out⟩, ⟨by (with_reducible repeat (first | refine blk_drewN ?_ _ | refine blk_drew ?_ | refine blk_alloc ?_ _)); exact BK483.out⟩, ⟨by (with_reducible repeat (first | refine blk_drewN ?_ _ | refine blk_drew ?_ | refine blk_alloc ?_ _)); exact BK489.out⟩, ⟨by (with_reducible repeat (first | refine blk_drewN ?_ _ | refine blk_drew ?_ | refine blk_alloc ?_ _)); exact BK499.out⟩, ⟨by repeat (first | (with_reducible first | exact HB.out | apply below_alloc | apply pw_below_drewN | apply below_drew1 | refine below_set ?_ GE467.out | refine below_set ?_ GE483.out | refine below_set ?_ GE489.out | refine below_set ?_ GE499.out) | exact HB.out)⟩⟩
        · replace c49 := Bool.eq_false_iff.mpr c49
          subst c49
          have H1 : (lw.j0 k l1 a2 t482 t490 t498 true a0_0 a0_1 l0_2 t477 t478 t479 t484 t485 t486 t493 t494 t495) = some r := by rw [if_neg (show ¬ (false = true) by decide)] at H; exact H
          clear H
          have H := H1
          clear H1
          have H' := Aside0.mk H
          clear H
          have hnb58 := NB499_467.out
          have hnc58 := NB467_499.out
          have hnb59 := NB499_483.out
          have hnc59 := NB483_499.out
          have hnb60 := NB499_489.out
          have hnc60 := NB489_499.out
          have hcz61_0 : w42.cell? ⟨gb499, 0, none⟩ = some (.int .i64 0) := (blk_cell BK499.out 0).trans rfl
          have hcz61_1 : w42.cell? ⟨gb499, 1, none⟩ = some (.int .i64 0) := (blk_cell BK499.out 1).trans rfl
          have hcz61_2 : w42.cell? ⟨gb499, 2, none⟩ = some (.slice none 0 0) := (blk_cell BK499.out 2).trans rfl
          have hfz61_0 := blk_frozen BK499.out 0
          have hfz61_1 := blk_frozen BK499.out 1
          have hfz61_2 := blk_frozen BK499.out 2
          have hnb62 := NB483_467.out
          have hnc62 := NB467_483.out
          have hnb63 := NB483_489.out
          have hnc63 := NB489_483.out
          have hcz64_0 : w42.cell? ⟨gb483, 0, none⟩ = some (.int .i64 t477) := (blk_cell BK483.out 0).trans rfl
          have hcz64_1 : w42.cell? ⟨gb483, 1, none⟩ = some (.int .i64 t478) := (blk_cell BK483.out 1).trans rfl
          have hcz64_2 : w42.cell? ⟨gb483, 2, none⟩ = some (.slice Ao30 t479.length co30) := (blk_cell BK483.out 2).trans rfl
          have hfz64_0 := blk_frozen BK483.out 0
          have hfz64_1 := blk_frozen BK483.out 1
          have hfz64_2 := blk_frozen BK483.out 2
          go_wp2_with (first | ((with_reducible refine gate_callee (f := 15) rfl ?_); refine goesL_ (some 49) rfl rfl Try.func15 (by kernel_rfl) rfl #[.agg #[.int .i64 t493, .int .i64 t494, .slice Ao47 t495.length co47], .agg #[.int .i64 t477, .int .i64 t478, .slice Ao30 t479.length co30]] rfl (by (try simp only [List.map_toArray, List.map_cons, List.map_nil]); first | done | rfl | (simp only [List.length_drop, List.length_take]; rfl)) ?_; (with_reducible refine (laws_eqBoard.calls k t493 t494 _ _ t495 t477 t478 _ _ t479 false _ ?side1 ?side2 ?side3 ?side4 A48.out).mono ?_); (case side1 => refine (Kd.R_reads' (e := 71) (base := w.heap.size) (ok := fun k_ => (((True ∧ some k_ ≠ (.slice Ao24 t471.length co24 : Value).ownBlock) ∧ some k_ ≠ (.slice Ao30 t479.length co30 : Value).ownBlock) ∧ some k_ ≠ (.slice Ao37 t486.length co37 : Value).ownBlock)) (n := t495.length) (c := co47) ?_).2.2; exact (by (with_reducible repeat (first | apply Kd.R_alloc | apply Kd.R_drewN | apply Kd.R_drew)); exact (Kd.R_mono (Kd.R_far (p := ⟨gb499, 2, none⟩) (Kd.R_far (p := ⟨gb499, 1, none⟩) (Kd.R_far (p := ⟨gb499, 0, none⟩) (Kd.R_types HO497.out BK499.out (by decide)) (fun _ hk => hk.2) (.int .i64 t493)) (fun _ hk => hk.2) (.int .i64 t494)) (fun _ hk => hk.2) (.slice Ao47 t495.length co47)) (fun _ h_ => h_.1)))); (case side2 => exact (Kd.R_reads' HO497.out).2.1); (case side3 => refine (Kd.R_reads' (e := 71) (base := w.heap.size) (ok := fun k_ => (((True ∧ some k_ ≠ (.slice Ao24 t471.length co24 : Value).ownBlock) ∧ some k_ ≠ (.slice Ao37 t486.length co37 : Value).ownBlock) ∧ some k_ ≠ (.slice Ao47 t495.length co47 : Value).ownBlock)) (n := t479.length) (c := co30) ?_).2.2; exact (by (with_reducible repeat (first | apply Kd.R_alloc | apply Kd.R_drewN | apply Kd.R_drew)); exact (Kd.R_mono (Kd.R_far (p := ⟨gb499, 2, none⟩) (Kd.R_far (p := ⟨gb499, 1, none⟩) (Kd.R_far (p := ⟨gb499, 0, none⟩) (Kd.R_types HO481.out BK499.out (by decide)) (fun _ hk => hk.2) (.int .i64 t493)) (fun _ hk => hk.2) (.int .i64 t494)) (fun _ hk => hk.2) (.slice Ao47 t495.length co47)) (fun _ h_ => h_.1)))); (case side4 => exact (Kd.R_reads' HO481.out).2.1); rintro e w65 ⟨rfl, hb⟩; refine ⟨_, rfl, ?_⟩; have n0_ := Aside0.mk (Kd.R_below (by (with_reducible repeat (first | apply Kd.R_alloc | apply Kd.R_drewN | apply Kd.R_drew)); exact (Kd.R_mono (Kd.R_far (p := ⟨gb499, 2, none⟩) (Kd.R_far (p := ⟨gb499, 1, none⟩) (Kd.R_far (p := ⟨gb499, 0, none⟩) (Kd.R_types HO473.out BK499.out (by decide)) (fun _ hk => hk.2) (.int .i64 t493)) (fun _ hk => hk.2) (.int .i64 t494)) (fun _ hk => hk.2) (.slice Ao47 t495.length co47)) (fun _ h_ => h_.1))) hb); have n1_ := Aside0.mk (Kd.R_below (by (with_reducible repeat (first | apply Kd.R_alloc | apply Kd.R_drewN | apply Kd.R_drew)); exact (Kd.R_mono (Kd.R_far (p := ⟨gb499, 2, none⟩) (Kd.R_far (p := ⟨gb499, 1, none⟩) (Kd.R_far (p := ⟨gb499, 0, none⟩) (Kd.R_types HO476.out BK499.out (by decide)) (fun _ hk => hk.2) (.int .i64 t493)) (fun _ hk => hk.2) (.int .i64 t494)) (fun _ hk => hk.2) (.slice Ao47 t495.length co47)) (fun _ h_ => h_.1))) hb); have n2_ := Aside0.mk (Kd.R_below (by (with_reducible repeat (first | apply Kd.R_alloc | apply Kd.R_drewN | apply Kd.R_drew)); exact (Kd.R_mono (Kd.R_far (p := ⟨gb499, 2, none⟩) (Kd.R_far (p := ⟨gb499, 1, none⟩) (Kd.R_far (p := ⟨gb499, 0, none⟩) (Kd.R_types HO481.out BK499.out (by decide)) (fun _ hk => hk.2) (.int .i64 t493)) (fun _ hk => hk.2) (.int .i64 t494)) (fun _ hk => hk.2) (.slice Ao47 t495.length co47)) (fun _ h_ => h_.1))) hb); have n3_ := Aside0.mk (Kd.R_below (by (with_reducible repeat (first | apply Kd.R_alloc | apply Kd.R_drewN | apply Kd.R_drew)); exact (Kd.R_mono (Kd.R_far (p := ⟨gb499, 2, none⟩) (Kd.R_far (p := ⟨gb499, 1, none⟩) (Kd.R_far (p := ⟨gb499, 0, none⟩) (Kd.R_types HO488.out BK499.out (by decide)) (fun _ hk => hk.2) (.int .i64 t493)) (fun _ hk => hk.2) (.int .i64 t494)) (fun _ hk => hk.2) (.slice Ao47 t495.length co47)) (fun _ h_ => h_.1))) hb); have n4_ := Aside0.mk (Kd.R_below (by (with_reducible repeat (first | apply Kd.R_alloc | apply Kd.R_drewN | apply Kd.R_drew)); exact (Kd.R_mono (Kd.R_far (p := ⟨gb499, 2, none⟩) (Kd.R_far (p := ⟨gb499, 1, none⟩) (Kd.R_far (p := ⟨gb499, 0, none⟩) (Kd.R_types HO492.out BK499.out (by decide)) (fun _ hk => hk.2) (.int .i64 t493)) (fun _ hk => hk.2) (.int .i64 t494)) (fun _ hk => hk.2) (.slice Ao47 t495.length co47)) (fun _ h_ => h_.1))) hb); have n5_ := Aside0.mk (Kd.R_below (by (with_reducible repeat (first | apply Kd.R_alloc | apply Kd.R_drewN | apply Kd.R_drew)); exact (Kd.R_mono (Kd.R_far (p := ⟨gb499, 2, none⟩) (Kd.R_far (p := ⟨gb499, 1, none⟩) (Kd.R_far (p := ⟨gb499, 0, none⟩) (Kd.R_types HO497.out BK499.out (by decide)) (fun _ hk => hk.2) (.int .i64 t493)) (fun _ hk => hk.2) (.int .i64 t494)) (fun _ hk => hk.2) (.slice Ao47 t495.length co47)) (fun _ h_ => h_.1))) hb); have n6_ := Aside0.mk (blk_below (g := gb467) (o := .cells #[.int .i64 a0_0, .int .i64 a0_1, .slice A0_2 l0_2.length c0_2] 32 (0, 0)) (by (with_reducible repeat (first | refine blk_drewN ?_ _ | refine blk_drew ?_ | refine blk_alloc ?_ _)); refine blk_far ?_ NB467_499.out _; (with_reducible repeat (first | refine blk_drewN ?_ _ | refine blk_drew ?_ | refine blk_alloc ?_ _)); refine blk_far ?_ NB467_499.out _; (with_reducible repeat (first | refine blk_drewN ?_ _ | refine blk_drew ?_ | refine blk_alloc ?_ _)); refine blk_far ?_ NB467_499.out _; (with_reducible repeat (first | refine blk_drewN ?_ _ | refine blk_drew ?_ | refine blk_alloc ?_ _)); exact BK467.out) hb); have n7_ := Aside0.mk (blk_below (g := gb483) (o := .cells #[.int .i64 t477, .int .i64 t478, .slice Ao30 t479.length co30] 24 (0, 0)) (by (with_reducible repeat (first | refine blk_drewN ?_ _ | refine blk_drew ?_ | refine blk_alloc ?_ _)); refine blk_far ?_ NB483_499.out _; (with_reducible repeat (first | refine blk_drewN ?_ _ | refine blk_drew ?_ | refine blk_alloc ?_ _)); refine blk_far ?_ NB483_499.out _; (with_reducible repeat (first | refine blk_drewN ?_ _ | refine blk_drew ?_ | refine blk_alloc ?_ _)); refine blk_far ?_ NB483_499.out _; (with_reducible repeat (first | refine blk_drewN ?_ _ | refine blk_drew ?_ | refine blk_alloc ?_ _)); exact BK483.out) hb); have n8_ := Aside0.mk (blk_below (g := gb489) (o := .cells #[.int .i64 t484, .int .i64 t485, .slice Ao37 t486.length co37] 24 (0, 0)) (by (with_reducible repeat (first | refine blk_drewN ?_ _ | refine blk_drew ?_ | refine blk_alloc ?_ _)); refine blk_far ?_ NB489_499.out _; (with_reducible repeat (first | refine blk_drewN ?_ _ | refine blk_drew ?_ | refine blk_alloc ?_ _)); refine blk_far ?_ NB489_499.out _; (with_reducible repeat (first | refine blk_drewN ?_ _ | refine blk_drew ?_ | refine blk_alloc ?_ _)); refine blk_far ?_ NB489_499.out _; (with_reducible repeat (first | refine blk_drewN ?_ _ | refine blk_drew ?_ | refine blk_alloc ?_ _)); exact BK489.out) hb); have n9_ := Aside0.mk (blk_below (g := gb499) (o := .cells #[.int .i64 t493, .int .i64 t494, .slice Ao47 t495.length co47] 24 (0, 0)) (by (with_reducible repeat (first | refine blk_drewN ?_ _ | refine blk_drew ?_ | refine blk_alloc ?_ _)); refine blk_put (cs := #[.int .i64 t493, .int .i64 t494, .slice none 0 0]) ?_ 2 _ rfl; (with_reducible repeat (first | refine blk_drewN ?_ _ | refine blk_drew ?_ | refine blk_alloc ?_ _)); refine blk_put (cs := #[.int .i64 t493, .int .i64 0, .slice none 0 0]) ?_ 1 _ rfl; (with_reducible repeat (first | refine blk_drewN ?_ _ | refine blk_drew ?_ | refine blk_alloc ?_ _)); refine blk_put (cs := #[.int .i64 0, .int .i64 0, .slice none 0 0]) ?_ 0 _ rfl; (with_reducible repeat (first | refine blk_drewN ?_ _ | refine blk_drew ?_ | refine blk_alloc ?_ _)); exact BK499.out) hb); have n10_ := Aside0.mk (below_step (by repeat (first | (with_reducible first | exact HB.out | apply below_alloc | apply pw_below_drewN | apply below_drew1 | refine below_set ?_ GE467.out | refine below_set ?_ GE483.out | refine below_set ?_ GE489.out | refine below_set ?_ GE499.out) | exact HB.out)) hb); clear HO473; clear HO476; clear HO481; clear HO488; clear HO492; clear HO497; clear BK467; clear BK483; clear BK489; clear BK499; clear HB; have HO473 := n0_; have HO476 := n1_; have HO481 := n2_; have HO488 := n3_; have HO492 := n4_; have HO497 := n5_; have BK467 := n6_; have BK483 := n7_; have BK489 := n8_; have BK499 := n9_; have HB := n10_; clear n0_ n1_ n2_ n3_ n4_ n5_ n6_ n7_ n8_ n9_ n10_; (try clear hb); (try clear hb2); (try clear hk); (try clear hi)))
          go_meet
          case rel => exact ⟨_, (true), (by first | rfl | (simp; done) | (simp [*]; done)), H', ⟨by first | omega | exact Nat.le_refl _⟩, ⟨by (with_reducible repeat (first | apply Kd.R_alloc | apply Kd.R_drewN | apply Kd.R_drew)); exact Kd.R_mono HO492.out (fun _ hk => trivial)⟩, ⟨by (with_reducible repeat (first | apply Kd.R_alloc | apply Kd.R_drewN | apply Kd.R_drew)); exact Kd.R_mono HO481.out (fun _ hk => ⟨hk.1.2, hk.2⟩)⟩, ⟨by (with_reducible repeat (first | apply Kd.R_alloc | apply Kd.R_drewN | apply Kd.R_drew)); exact Kd.R_mono HO488.out (fun _ hk => ⟨hk.1.2, hk.2⟩)⟩, ⟨by (with_reducible repeat (first | apply Kd.R_alloc | apply Kd.R_drewN | apply Kd.R_drew)); exact Kd.R_mono HO497.out (fun _ hk => ⟨hk.1.2, hk.2⟩)⟩, ⟨by (with_reducible repeat (first | refine blk_drewN ?_ _ | refine blk_drew ?_ | refine blk_alloc ?_ _)); exact BK467.out⟩, ⟨by (with_reducible repeat (first | refine blk_drewN ?_ _ | refine blk_drew ?_ | refine blk_alloc ?_ _)); exact BK483.out⟩, ⟨by (with_reducible repeat (first | refine blk_drewN ?_ _ | refine blk_drew ?_ | refine blk_alloc ?_ _)); exact BK489.out⟩, ⟨by (with_reducible repeat (first | refine blk_drewN ?_ _ | refine blk_drew ?_ | refine blk_alloc ?_ _)); exact BK499.out⟩, ⟨by repeat (first | (with_reducible first | exact HB.out | apply below_alloc | apply pw_below_drewN | apply below_drew1 | refine below_set ?_ GE467.out | refine below_set ?_ GE483.out | refine below_set ?_ GE489.out | refine below_set ?_ GE499.out) | exact HB.out)⟩⟩
      case rest =>
        clear HC17
        try clear c1
        try clear c2
        try clear p2
        try clear c3
        try clear c4
        try clear c4b0
        try clear c4b1
        try clear c5
        try clear c6
        try clear c7
        try clear c7b0
        try clear c15
        try clear c18
        try clear c20
        try clear c25
        try clear c28
        try clear c29
        try clear c34
        try clear c35
        try clear c43
        try clear c44
        try clear c45
        try clear c49
        try clear c50
        try clear c51
        try clear c52
        try clear c54
        try clear c55
        try clear c58
        try clear c59
        try clear c60
        try clear c62
        try clear c63
        try clear hcz19_0
        try clear hcz19_1
        try clear hcz19_2
        try clear hcz21_0
        try clear hcz21_1
        try clear hcz21_2
        try clear hcz29_0
        try clear hcz29_1
        try clear hcz29_2
        try clear hcz31_0
        try clear hcz31_1
        try clear hcz31_2
        try clear hcz36_0
        try clear hcz36_1
        try clear hcz36_2
        try clear hcz39_0
        try clear hcz39_1
        try clear hcz39_2
        try clear hcz46_0
        try clear hcz46_1
        try clear hcz46_2
        try clear hcz53_0
        try clear hcz53_1
        try clear hcz53_2
        try clear hcz56_0
        try clear hcz56_1
        try clear hcz56_2
        try clear hcz61_0
        try clear hcz61_1
        try clear hcz61_2
        try clear hcz64_0
        try clear hcz64_1
        try clear hcz64_2
        try clear hcz9_0
        try clear hcz9_1
        try clear hcz9_2
        try clear hfz19_0
        try clear hfz19_1
        try clear hfz19_2
        try clear hfz21_0
        try clear hfz21_1
        try clear hfz21_2
        try clear hfz29_0
        try clear hfz29_1
        try clear hfz29_2
        try clear hfz31_0
        try clear hfz31_1
        try clear hfz31_2
        try clear hfz36_0
        try clear hfz36_1
        try clear hfz36_2
        try clear hfz39_0
        try clear hfz39_1
        try clear hfz39_2
        try clear hfz46_0
        try clear hfz46_1
        try clear hfz46_2
        try clear hfz53_0
        try clear hfz53_1
        try clear hfz53_2
        try clear hfz56_0
        try clear hfz56_1
        try clear hfz56_2
        try clear hfz61_0
        try clear hfz61_1
        try clear hfz61_2
        try clear hfz64_0
        try clear hfz64_1
        try clear hfz64_2
        try clear hfz9_0
        try clear hfz9_1
        try clear hfz9_2
        obtain ⟨kq, x55_16, rfl, HA, HJ16, HO_11, HO_484002, HO_490002, HO_500002, BK467, BK483, BK489, BK499, HB⟩ := hcut
        cases kq with
        | zero => exact absurd HA.out (by simp [lw.j0])
        | succ kj16 =>
          have H := HA.out
          clear HA
          simp only [lw.j0] at H
          by_cases c66 : x55_16 = true
          · subst c66
            have H1 : (some false) = some r := by rw [if_pos rfl] at H; exact H
            clear H
            have H := H1
            clear H1
            obtain rfl := Option.some.inj H
            go_wp2
            go_ret
            exact ⟨by first | rfl | (simp [errW_none, errW_some] <;> rfl) | (simp [*, errW_none, errW_some] <;> rfl), by repeat (first | (with_reducible first | exact HB.out | apply below_alloc | apply pw_below_drewN | apply below_drew1 | refine below_set ?_ GE467.out | refine below_set ?_ GE483.out | refine below_set ?_ GE489.out | refine below_set ?_ GE499.out) | exact HB.out)⟩
          · replace c66 := Bool.eq_false_iff.mpr c66
            subst c66
            have H1 : ((laws_toBoard.f kj16 a0_0 a0_1 l0_2).bind fun bt501 => ((laws_eqBoard.f kj16 t484 t485 t486 bt501.1 bt501.2.1 bt501.2.2).bind fun t506 => (if t506 = true then ((laws_toIntS.f kj16 l1).bind fun t507 => ((laws_eqIntS.f kj16 t490 t507).bind fun t510 => (if t510 = true then ((laws_markBoard.f kj16 t484 t485 t486 1).bind fun bt511 => ((laws_markIntS.f kj16 t490 bt511.1).bind fun bt513 => (if bt513.1 < 0 then (lw.j1 kj16 l1 a2 t482 true a0_0 a0_1 l0_2 t477 t478 t479 t493 t494 t495) else ((laws_eqBoard.f kj16 t493 t494 t495 t477 t478 t479).bind fun t515 => (if t515 = true then (lw.j1 kj16 l1 a2 t482 (t498 != t482) a0_0 a0_1 l0_2 t477 t478 t479 t493 t494 t495) else (lw.j1 kj16 l1 a2 t482 true a0_0 a0_1 l0_2 t477 t478 t479 t493 t494 t495)))))) else (some false)))) else (some false)))) = some r := by rw [if_neg (show ¬ (false = true) by decide)] at H; exact H
            clear H
            have H := H1
            clear H1
            replace H := Option.bind_eq_some_iff.mp H
            obtain ⟨⟨t501, t502, t503⟩, A670, H⟩ := H
            replace H : ((laws_eqBoard.f kj16 t484 t485 t486 t501 t502 t503).bind fun t506 => (if t506 = true then ((laws_toIntS.f kj16 l1).bind fun t507 => ((laws_eqIntS.f kj16 t490 t507).bind fun t510 => (if t510 = true then ((laws_markBoard.f kj16 t484 t485 t486 1).bind fun bt511 => ((laws_markIntS.f kj16 t490 bt511.1).bind fun bt513 => (if bt513.1 < 0 then (lw.j1 kj16 l1 a2 t482 true a0_0 a0_1 l0_2 t477 t478 t479 t493 t494 t495) else ((laws_eqBoard.f kj16 t493 t494 t495 t477 t478 t479).bind fun t515 => (if t515 = true then (lw.j1 kj16 l1 a2 t482 (t498 != t482) a0_0 a0_1 l0_2 t477 t478 t479 t493 t494 t495) else (lw.j1 kj16 l1 a2 t482 true a0_0 a0_1 l0_2 t477 t478 t479 t493 t494 t495)))))) else (some false)))) else (some false))) = some r := H
            have A67 := Aside0.mk A670
            clear A670
            replace H := Option.bind_eq_some_iff.mp H
            obtain ⟨t506, A680, H⟩ := H
            replace H : (if t506 = true then ((laws_toIntS.f kj16 l1).bind fun t507 => ((laws_eqIntS.f kj16 t490 t507).bind fun t510 => (if t510 = true then ((laws_markBoard.f kj16 t484 t485 t486 1).bind fun bt511 => ((laws_markIntS.f kj16 t490 bt511.1).bind fun bt513 => (if bt513.1 < 0 then (lw.j1 kj16 l1 a2 t482 true a0_0 a0_1 l0_2 t477 t478 t479 t493 t494 t495) else ((laws_eqBoard.f kj16 t493 t494 t495 t477 t478 t479).bind fun t515 => (if t515 = true then (lw.j1 kj16 l1 a2 t482 (t498 != t482) a0_0 a0_1 l0_2 t477 t478 t479 t493 t494 t495) else (lw.j1 kj16 l1 a2 t482 true a0_0 a0_1 l0_2 t477 t478 t479 t493 t494 t495)))))) else (some false)))) else (some false)) = some r := H
            have A68 := Aside0.mk A680
            clear A680
            by_cases c69 : t506 = true
            · subst c69
              have H1 : ((laws_toIntS.f kj16 l1).bind fun t507 => ((laws_eqIntS.f kj16 t490 t507).bind fun t510 => (if t510 = true then ((laws_markBoard.f kj16 t484 t485 t486 1).bind fun bt511 => ((laws_markIntS.f kj16 t490 bt511.1).bind fun bt513 => (if bt513.1 < 0 then (lw.j1 kj16 l1 a2 t482 true a0_0 a0_1 l0_2 t477 t478 t479 t493 t494 t495) else ((laws_eqBoard.f kj16 t493 t494 t495 t477 t478 t479).bind fun t515 => (if t515 = true then (lw.j1 kj16 l1 a2 t482 (t498 != t482) a0_0 a0_1 l0_2 t477 t478 t479 t493 t494 t495) else (lw.j1 kj16 l1 a2 t482 true a0_0 a0_1 l0_2 t477 t478 t479 t493 t494 t495)))))) else (some false)))) = some r := by rw [if_pos rfl] at H; exact H
              clear H
              have H := H1
              clear H1
              replace H := Option.bind_eq_some_iff.mp H
              obtain ⟨t507, A700, H⟩ := H
              replace H : ((laws_eqIntS.f kj16 t490 t507).bind fun t510 => (if t510 = true then ((laws_markBoard.f kj16 t484 t485 t486 1).bind fun bt511 => ((laws_markIntS.f kj16 t490 bt511.1).bind fun bt513 => (if bt513.1 < 0 then (lw.j1 kj16 l1 a2 t482 true a0_0 a0_1 l0_2 t477 t478 t479 t493 t494 t495) else ((laws_eqBoard.f kj16 t493 t494 t495 t477 t478 t479).bind fun t515 => (if t515 = true then (lw.j1 kj16 l1 a2 t482 (t498 != t482) a0_0 a0_1 l0_2 t477 t478 t479 t493 t494 t495) else (lw.j1 kj16 l1 a2 t482 true a0_0 a0_1 l0_2 t477 t478 t479 t493 t494 t495)))))) else (some false))) = some r := H
              have A70 := Aside0.mk A700
              clear A700
              replace H := Option.bind_eq_some_iff.mp H
              obtain ⟨t510, A710, H⟩ := H
              replace H : (if t510 = true then ((laws_markBoard.f kj16 t484 t485 t486 1).bind fun bt511 => ((laws_markIntS.f kj16 t490 bt511.1).bind fun bt513 => (if bt513.1 < 0 then (lw.j1 kj16 l1 a2 t482 true a0_0 a0_1 l0_2 t477 t478 t479 t493 t494 t495) else ((laws_eqBoard.f kj16 t493 t494 t495 t477 t478 t479).bind fun t515 => (if t515 = true then (lw.j1 kj16 l1 a2 t482 (t498 != t482) a0_0 a0_1 l0_2 t477 t478 t479 t493 t494 t495) else (lw.j1 kj16 l1 a2 t482 true a0_0 a0_1 l0_2 t477 t478 t479 t493 t494 t495)))))) else (some false)) = some r := H
              have A71 := Aside0.mk A710
              clear A710
              by_cases c72 : t510 = true
              · subst c72
                have H1 : ((laws_markBoard.f kj16 t484 t485 t486 1).bind fun bt511 => ((laws_markIntS.f kj16 t490 bt511.1).bind fun bt513 => (if bt513.1 < 0 then (lw.j1 kj16 l1 a2 t482 true a0_0 a0_1 l0_2 t477 t478 t479 t493 t494 t495) else ((laws_eqBoard.f kj16 t493 t494 t495 t477 t478 t479).bind fun t515 => (if t515 = true then (lw.j1 kj16 l1 a2 t482 (t498 != t482) a0_0 a0_1 l0_2 t477 t478 t479 t493 t494 t495) else (lw.j1 kj16 l1 a2 t482 true a0_0 a0_1 l0_2 t477 t478 t479 t493 t494 t495)))))) = some r := by rw [if_pos rfl] at H; exact H
                clear H
                have H := H1
                clear H1
                replace H := Option.bind_eq_some_iff.mp H
                obtain ⟨⟨t511, t512⟩, A730, H⟩ := H
                replace H : ((laws_markIntS.f kj16 t490 t511).bind fun bt513 => (if bt513.1 < 0 then (lw.j1 kj16 l1 a2 t482 true a0_0 a0_1 l0_2 t477 t478 t479 t493 t494 t495) else ((laws_eqBoard.f kj16 t493 t494 t495 t477 t478 t479).bind fun t515 => (if t515 = true then (lw.j1 kj16 l1 a2 t482 (t498 != t482) a0_0 a0_1 l0_2 t477 t478 t479 t493 t494 t495) else (lw.j1 kj16 l1 a2 t482 true a0_0 a0_1 l0_2 t477 t478 t479 t493 t494 t495))))) = some r := H
                have A73 := Aside0.mk A730
                clear A730
                replace H := Option.bind_eq_some_iff.mp H
                obtain ⟨⟨t513, t514⟩, A740, H⟩ := H
                replace H : (if t513 < 0 then (lw.j1 kj16 l1 a2 t482 true a0_0 a0_1 l0_2 t477 t478 t479 t493 t494 t495) else ((laws_eqBoard.f kj16 t493 t494 t495 t477 t478 t479).bind fun t515 => (if t515 = true then (lw.j1 kj16 l1 a2 t482 (t498 != t482) a0_0 a0_1 l0_2 t477 t478 t479 t493 t494 t495) else (lw.j1 kj16 l1 a2 t482 true a0_0 a0_1 l0_2 t477 t478 t479 t493 t494 t495)))) = some r := H
                have A74 := Aside0.mk A740
                clear A740
                have HC75 := Aside0.mk H
                clear H
                try go_wp2
                have n0_ := Aside0.mk (Kd.R_drew HO_11.out)
                have n1_ := Aside0.mk (Kd.R_drew HO_484002.out)
                have n2_ := Aside0.mk (Kd.R_drew HO_490002.out)
                have n3_ := Aside0.mk (Kd.R_drew HO_500002.out)
                have n4_ := Aside0.mk (blk_drew BK467.out)
                have n5_ := Aside0.mk (blk_drew BK483.out)
                have n6_ := Aside0.mk (blk_drew BK489.out)
                have n7_ := Aside0.mk (blk_drew BK499.out)
                have n8_ := Aside0.mk (below_drew1 HB.out)
                clear HO_11
                clear HO_484002
                clear HO_490002
                clear HO_500002
                clear BK467
                clear BK483
                clear BK489
                clear BK499
                clear HB
                have HO_11 := n0_
                have HO_484002 := n1_
                have HO_490002 := n2_
                have HO_500002 := n3_
                have BK467 := n4_
                have BK483 := n5_
                have BK489 := n6_
                have BK499 := n7_
                have HB := n8_
                clear n0_ n1_ n2_ n3_ n4_ n5_ n6_ n7_ n8_
                refine start_ (n := 5) (S := fun w' => w'.cell? ⟨gb489, 0, none⟩ = some (.int .i64 t484) ∧ w'.cell? ⟨gb489, 1, none⟩ = some (.int .i64 t485) ∧ w'.cell? ⟨gb489, 2, none⟩ = some (.slice Ao37 t486.length co37) ∧ w'.cell? ⟨gb467, 0, none⟩ = some (.int .i64 a0_0) ∧ w'.cell? ⟨gb467, 1, none⟩ = some (.int .i64 a0_1) ∧ w'.cell? ⟨gb467, 2, none⟩ = some (.slice A0_2 l0_2.length c0_2)) (ds := []) #[false, false, false, false, false] (by kernel_rfl) rfl rfl ⟨(blk_cell BK489.out 0).trans rfl, (blk_cell BK489.out 1).trans rfl, (blk_cell BK489.out 2).trans rfl, (blk_cell BK467.out 0).trans rfl, (blk_cell BK467.out 1).trans rfl, (blk_cell BK467.out 2).trans rfl⟩ (fun hHeld => ?_)
                generalize wc.drew = w76 at HO_11 HO_484002 HO_490002 HO_500002 BK467 BK483 BK489 BK499 HB hHeld ⊢
                refine take_ (i := 0) (N := some 56) (v := ?_) (a' := ?_) #[true, false, false, false, false] rfl rfl (by kernel_rfl) (fun _ _ _ h => h) (Or.inl ⟨by rfl, ?_⟩) hHeld ?_ ?_
                rotate_left
                · rintro w' ⟨s0, s1, s2, s3, s4, s5⟩
                  go_simp
                  with_reducible rfl
                rotate_left
                · simp only [Act.put, List.setIfInBounds_toArray, List.set_cons_zero, List.set_cons_succ, i64_w, i32_w]
                  rfl
                refine take_ (i := 1) (N := some 57) (v := ?_) (a' := ?_) #[true, true, false, false, false] rfl rfl (by kernel_rfl) (fun _ _ _ h => h) (Or.inl ⟨by rfl, ?_⟩) hHeld ?_ ?_
                rotate_left
                · rintro w' ⟨s0, s1, s2, s3, s4, s5⟩
                  go_simp
                  with_reducible rfl
                rotate_left
                · simp only [Act.put, List.setIfInBounds_toArray, List.set_cons_zero, List.set_cons_succ, i64_w, i32_w]
                  rfl
                refine one_ (i := 2) (N := some 58) #[true, true, true, false, false] rfl rfl (by kernel_rfl) (by decide) (fun K hK => ?_)
                refine goes_ Try.func20 (by kernel_rfl) rfl #[.agg #[.int .i64 a0_0, .int .i64 a0_1, .slice A0_2 l0_2.length c0_2]] (by rfl) rfl rfl (by (try simp only [List.map_toArray, List.map_cons, List.map_nil]); first | done | rfl | (simp only [List.length_drop, List.length_take]; rfl)) ?_
                with_reducible refine (laws_toBoard.calls kj16 a0_0 a0_1 _ _ l0_2 t501 t502 t503 _ ?side1 ?side2 A67.out).mono ?_
                (case side1 => repeat (first | exact (Kd.C_below HR0_2.out HB.out) | (with_reducible refine Kd.C_alloc ?_ _) | (with_reducible refine Kd.C_drewN ?_ _) | (with_reducible refine Kd.C_drew ?_)))
                (case side2 => exact HC0_2.out)
                rintro e w77 ⟨v504, rfl, ho0, hb⟩
                refine ⟨_, rfl, ?_⟩
                have n0_ := Aside0.mk (Kd.R_below (by (with_reducible repeat (first | apply Kd.R_alloc | apply Kd.R_drewN | apply Kd.R_drew)); exact HO_11.out) hb)
                have n1_ := Aside0.mk (Kd.R_elder' (by (with_reducible repeat (first | apply Kd.R_alloc | apply Kd.R_drewN | apply Kd.R_drew)); exact HO_484002.out) (Kd.R_base ho0) hb)
                have n2_ := Aside0.mk (Kd.R_elder' (by (with_reducible repeat (first | apply Kd.R_alloc | apply Kd.R_drewN | apply Kd.R_drew)); exact HO_490002.out) (Kd.R_base ho0) hb)
                have n3_ := Aside0.mk (Kd.R_elder' (by (with_reducible repeat (first | apply Kd.R_alloc | apply Kd.R_drewN | apply Kd.R_drew)); exact HO_500002.out) (Kd.R_base ho0) hb)
                have n4_ := Aside0.mk (Kd.R_lower (Kd.R_new' (Kd.R_new' (Kd.R_new' ho0 (Kd.R_lt (by (with_reducible repeat (first | apply Kd.R_alloc | apply Kd.R_drewN | apply Kd.R_drew)); exact HO_484002.out))) (Kd.R_lt (by (with_reducible repeat (first | apply Kd.R_alloc | apply Kd.R_drewN | apply Kd.R_drew)); exact HO_490002.out))) (Kd.R_lt (by (with_reducible repeat (first | apply Kd.R_alloc | apply Kd.R_drewN | apply Kd.R_drew)); exact HO_500002.out))) (below_size (by repeat (first | (with_reducible first | exact HB.out | apply below_alloc | apply pw_below_drewN | apply below_drew1 | refine below_set ?_ GE467.out | refine below_set ?_ GE483.out | refine below_set ?_ GE489.out | refine below_set ?_ GE499.out) | exact HB.out))))
                have n5_ := Aside0.mk (blk_below (g := gb467) (o := .cells #[.int .i64 a0_0, .int .i64 a0_1, .slice A0_2 l0_2.length c0_2] 32 (0, 0)) (by (with_reducible repeat (first | refine blk_drewN ?_ _ | refine blk_drew ?_ | refine blk_alloc ?_ _)); exact BK467.out) hb)
                have n6_ := Aside0.mk (blk_below (g := gb483) (o := .cells #[.int .i64 t477, .int .i64 t478, .slice Ao30 t479.length co30] 24 (0, 0)) (by (with_reducible repeat (first | refine blk_drewN ?_ _ | refine blk_drew ?_ | refine blk_alloc ?_ _)); exact BK483.out) hb)
                have n7_ := Aside0.mk (blk_below (g := gb489) (o := .cells #[.int .i64 t484, .int .i64 t485, .slice Ao37 t486.length co37] 24 (0, 0)) (by (with_reducible repeat (first | refine blk_drewN ?_ _ | refine blk_drew ?_ | refine blk_alloc ?_ _)); exact BK489.out) hb)
                have n8_ := Aside0.mk (blk_below (g := gb499) (o := .cells #[.int .i64 t493, .int .i64 t494, .slice Ao47 t495.length co47] 24 (0, 0)) (by (with_reducible repeat (first | refine blk_drewN ?_ _ | refine blk_drew ?_ | refine blk_alloc ?_ _)); exact BK499.out) hb)
                have n9_ := Aside0.mk (below_step (by repeat (first | (with_reducible first | exact HB.out | apply below_alloc | apply pw_below_drewN | apply below_drew1 | refine below_set ?_ GE467.out | refine below_set ?_ GE483.out | refine below_set ?_ GE489.out | refine below_set ?_ GE499.out) | exact HB.out)) hb)
                clear HO_11
                clear HO_484002
                clear HO_490002
                clear HO_500002
                clear BK467
                clear BK483
                clear BK489
                clear BK499
                clear HB
                have HO_11 := n0_
                have HO_484002 := n1_
                have HO_490002 := n2_
                have HO_500002 := n3_
                have HO505 := n4_
                have BK467 := n5_
                have BK483 := n6_
                have BK489 := n7_
                have BK499 := n8_
                have HB := n9_
                clear n0_ n1_ n2_ n3_ n4_ n5_ n6_ n7_ n8_ n9_
                (try clear hb)
                (try clear hb2)
                (try clear hk)
                (try clear hi)
                (try clear ho0)
                obtain ⟨Ao78, co78, eo78⟩ := Kd.R_slice HO505.out
                (first | subst eo78 | (injection eo78 with f1_ f2_ f3_; have f4_ := f1_.symm; have f5_ := f3_.symm; clear f1_ f2_ f3_; subst f4_; subst f5_))
                refine hK.out _ _ ⟨(blk_cell BK489.out 0).trans rfl, (blk_cell BK489.out 1).trans rfl, (blk_cell BK489.out 2).trans rfl, (blk_cell BK467.out 0).trans rfl, (blk_cell BK467.out 1).trans rfl, (blk_cell BK467.out 2).trans rfl⟩ (fun hHeld => ?_)
                clear hK K
                refine norm_ (a' := ?_) ?_ ?_
                rotate_left
                · show Act.put _ (some 58) _ = _
                  simp only [Act.put, List.setIfInBounds_toArray, List.set_cons_zero, List.set_cons_succ, i64_w, i32_w]
                  rfl
                refine one_ (i := 3) (N := some 59) #[true, true, true, true, false] rfl rfl (by kernel_rfl) (by decide) (fun K hK => ?_)
                refine goes_ Try.func15 (by kernel_rfl) rfl #[.agg #[.int .i64 t484, .int .i64 t485, .slice Ao37 t486.length co37], .agg #[.int .i64 t501, .int .i64 t502, .slice Ao78 t503.length co78]] (by rfl) rfl rfl (by (try simp only [List.map_toArray, List.map_cons, List.map_nil]); first | done | rfl | (simp only [List.length_drop, List.length_take]; rfl)) ?_
                with_reducible refine (laws_eqBoard.calls kj16 t484 t485 _ _ t486 t501 t502 _ _ t503 true _ ?side1 ?side2 ?side3 ?side4 A68.out).mono ?_
                (case side1 => repeat (first | exact (Kd.R_reads' HO_490002.out).2.2 | (with_reducible refine Kd.C_alloc ?_ _) | (with_reducible refine Kd.C_drewN ?_ _) | (with_reducible refine Kd.C_drew ?_)))
                (case side2 => exact (Kd.R_reads' HO_490002.out).2.1)
                (case side3 => repeat (first | exact (Kd.R_reads' HO505.out).2.2 | (with_reducible refine Kd.C_alloc ?_ _) | (with_reducible refine Kd.C_drewN ?_ _) | (with_reducible refine Kd.C_drew ?_)))
                (case side4 => exact (Kd.R_reads' HO505.out).2.1)
                rintro e w79 ⟨rfl, hb⟩
                refine ⟨_, rfl, ?_⟩
                have n0_ := Aside0.mk (Kd.R_below (by (with_reducible repeat (first | apply Kd.R_alloc | apply Kd.R_drewN | apply Kd.R_drew)); exact HO_11.out) hb)
                have n1_ := Aside0.mk (Kd.R_below (by (with_reducible repeat (first | apply Kd.R_alloc | apply Kd.R_drewN | apply Kd.R_drew)); exact HO_484002.out) hb)
                have n2_ := Aside0.mk (Kd.R_below (by (with_reducible repeat (first | apply Kd.R_alloc | apply Kd.R_drewN | apply Kd.R_drew)); exact HO_490002.out) hb)
                have n3_ := Aside0.mk (Kd.R_below (by (with_reducible repeat (first | apply Kd.R_alloc | apply Kd.R_drewN | apply Kd.R_drew)); exact HO_500002.out) hb)
                have n4_ := Aside0.mk (Kd.R_below (by (with_reducible repeat (first | apply Kd.R_alloc | apply Kd.R_drewN | apply Kd.R_drew)); exact HO505.out) hb)
                have n5_ := Aside0.mk (blk_below (g := gb467) (o := .cells #[.int .i64 a0_0, .int .i64 a0_1, .slice A0_2 l0_2.length c0_2] 32 (0, 0)) (by (with_reducible repeat (first | refine blk_drewN ?_ _ | refine blk_drew ?_ | refine blk_alloc ?_ _)); exact BK467.out) hb)
                have n6_ := Aside0.mk (blk_below (g := gb483) (o := .cells #[.int .i64 t477, .int .i64 t478, .slice Ao30 t479.length co30] 24 (0, 0)) (by (with_reducible repeat (first | refine blk_drewN ?_ _ | refine blk_drew ?_ | refine blk_alloc ?_ _)); exact BK483.out) hb)
                have n7_ := Aside0.mk (blk_below (g := gb489) (o := .cells #[.int .i64 t484, .int .i64 t485, .slice Ao37 t486.length co37] 24 (0, 0)) (by (with_reducible repeat (first | refine blk_drewN ?_ _ | refine blk_drew ?_ | refine blk_alloc ?_ _)); exact BK489.out) hb)
                have n8_ := Aside0.mk (blk_below (g := gb499) (o := .cells #[.int .i64 t493, .int .i64 t494, .slice Ao47 t495.length co47] 24 (0, 0)) (by (with_reducible repeat (first | refine blk_drewN ?_ _ | refine blk_drew ?_ | refine blk_alloc ?_ _)); exact BK499.out) hb)
                have n9_ := Aside0.mk (below_step (by repeat (first | (with_reducible first | exact HB.out | apply below_alloc | apply pw_below_drewN | apply below_drew1 | refine below_set ?_ GE467.out | refine below_set ?_ GE483.out | refine below_set ?_ GE489.out | refine below_set ?_ GE499.out) | exact HB.out)) hb)
                clear HO_11
                clear HO_484002
                clear HO_490002
                clear HO_500002
                clear HO505
                clear BK467
                clear BK483
                clear BK489
                clear BK499
                clear HB
                have HO_11 := n0_
                have HO_484002 := n1_
                have HO_490002 := n2_
                have HO_500002 := n3_
                have HO505 := n4_
                have BK467 := n5_
                have BK483 := n6_
                have BK489 := n7_
                have BK499 := n8_
                have HB := n9_
                clear n0_ n1_ n2_ n3_ n4_ n5_ n6_ n7_ n8_ n9_
                (try clear hb)
                (try clear hb2)
                (try clear hk)
                (try clear hi)
                refine hK.out _ _ ⟨(blk_cell BK489.out 0).trans rfl, (blk_cell BK489.out 1).trans rfl, (blk_cell BK489.out 2).trans rfl, (blk_cell BK467.out 0).trans rfl, (blk_cell BK467.out 1).trans rfl, (blk_cell BK467.out 2).trans rfl⟩ (fun hHeld => ?_)
                clear hK K
                refine norm_ (a' := ?_) ?_ ?_
                rotate_left
                · show Act.put _ (some 59) _ = _
                  simp only [Act.put, List.setIfInBounds_toArray, List.set_cons_zero, List.set_cons_succ, i64_w, i32_w]
                  rfl
                refine pure_ (i := 4) (N := some 60) (v := ?_) (a' := ?_) #[true, true, true, true, true] rfl rfl (by kernel_rfl) (fun _ _ _ h => h) (Or.inl ⟨by rfl, ?_⟩) ?_ ?_
                rotate_left
                · intro w'
                  go_simp
                  with_reducible rfl
                rotate_left
                · simp only [Act.put, List.setIfInBounds_toArray, List.set_cons_zero, List.set_cons_succ, i64_w, i32_w]
                  rfl
                refine done_ (by kernel_rfl) ?_
                go_upto_region 20 with (first | ((with_reducible refine gate_callee (f := 25) rfl ?_); refine goesL_ (some 63) rfl rfl Try.func25 (by kernel_rfl) rfl #[.slice A1 l1.length c1] rfl (by (try simp only [List.map_toArray, List.map_cons, List.map_nil]); first | done | rfl | (simp only [List.length_drop, List.length_take]; rfl)) ?_; (with_reducible refine (laws_toIntS.calls kj16 _ _ l1 t507 _ ?side1 ?side2 A70.out).mono ?_); (case side1 => repeat (first | exact (Kd.C_below HR1.out HB.out) | (with_reducible refine Kd.C_alloc ?_ _) | (with_reducible refine Kd.C_drewN ?_ _) | (with_reducible refine Kd.C_drew ?_))); (case side2 => exact HC1.out); rintro e w80 ⟨v508, rfl, ho0, hb⟩; refine ⟨_, rfl, ?_⟩; have n0_ := Aside0.mk (Kd.R_elder' (by (with_reducible repeat (first | apply Kd.R_alloc | apply Kd.R_drewN | apply Kd.R_drew)); exact HO_11.out) (Kd.R_base ho0) hb); have n1_ := Aside0.mk (Kd.R_below (by (with_reducible repeat (first | apply Kd.R_alloc | apply Kd.R_drewN | apply Kd.R_drew)); exact HO_484002.out) hb); have n2_ := Aside0.mk (Kd.R_below (by (with_reducible repeat (first | apply Kd.R_alloc | apply Kd.R_drewN | apply Kd.R_drew)); exact HO_490002.out) hb); have n3_ := Aside0.mk (Kd.R_below (by (with_reducible repeat (first | apply Kd.R_alloc | apply Kd.R_drewN | apply Kd.R_drew)); exact HO_500002.out) hb); have n4_ := Aside0.mk (Kd.R_below (by (with_reducible repeat (first | apply Kd.R_alloc | apply Kd.R_drewN | apply Kd.R_drew)); exact HO505.out) hb); have n5_ := Aside0.mk (Kd.R_lower (Kd.R_new' ho0 (Kd.R_lt (by (with_reducible repeat (first | apply Kd.R_alloc | apply Kd.R_drewN | apply Kd.R_drew)); exact HO_11.out))) (below_size (by repeat (first | (with_reducible first | exact HB.out | apply below_alloc | apply pw_below_drewN | apply below_drew1 | refine below_set ?_ GE467.out | refine below_set ?_ GE483.out | refine below_set ?_ GE489.out | refine below_set ?_ GE499.out) | exact HB.out)))); have n6_ := Aside0.mk (blk_below (g := gb467) (o := .cells #[.int .i64 a0_0, .int .i64 a0_1, .slice A0_2 l0_2.length c0_2] 32 (0, 0)) (by (with_reducible repeat (first | refine blk_drewN ?_ _ | refine blk_drew ?_ | refine blk_alloc ?_ _)); exact BK467.out) hb); have n7_ := Aside0.mk (blk_below (g := gb483) (o := .cells #[.int .i64 t477, .int .i64 t478, .slice Ao30 t479.length co30] 24 (0, 0)) (by (with_reducible repeat (first | refine blk_drewN ?_ _ | refine blk_drew ?_ | refine blk_alloc ?_ _)); exact BK483.out) hb); have n8_ := Aside0.mk (blk_below (g := gb489) (o := .cells #[.int .i64 t484, .int .i64 t485, .slice Ao37 t486.length co37] 24 (0, 0)) (by (with_reducible repeat (first | refine blk_drewN ?_ _ | refine blk_drew ?_ | refine blk_alloc ?_ _)); exact BK489.out) hb); have n9_ := Aside0.mk (blk_below (g := gb499) (o := .cells #[.int .i64 t493, .int .i64 t494, .slice Ao47 t495.length co47] 24 (0, 0)) (by (with_reducible repeat (first | refine blk_drewN ?_ _ | refine blk_drew ?_ | refine blk_alloc ?_ _)); exact BK499.out) hb); have n10_ := Aside0.mk (below_step (by repeat (first | (with_reducible first | exact HB.out | apply below_alloc | apply pw_below_drewN | apply below_drew1 | refine below_set ?_ GE467.out | refine below_set ?_ GE483.out | refine below_set ?_ GE489.out | refine below_set ?_ GE499.out) | exact HB.out)) hb); clear HO_11; clear HO_484002; clear HO_490002; clear HO_500002; clear HO505; clear BK467; clear BK483; clear BK489; clear BK499; clear HB; have HO_11 := n0_; have HO_484002 := n1_; have HO_490002 := n2_; have HO_500002 := n3_; have HO505 := n4_; have HO509 := n5_; have BK467 := n6_; have BK483 := n7_; have BK489 := n8_; have BK499 := n9_; have HB := n10_; clear n0_ n1_ n2_ n3_ n4_ n5_ n6_ n7_ n8_ n9_ n10_; (try clear hb); (try clear hb2); (try clear hk); (try clear hi); (try clear ho0); obtain ⟨Ao81, co81, eo81⟩ := Kd.R_slice HO509.out; subst eo81) | ((with_reducible refine gate_callee (f := 27) rfl ?_); refine goesL_ (some 64) rfl rfl Try.func27 (by kernel_rfl) rfl #[.slice Ao40 t490.length co40, .slice Ao81 t507.length co81] rfl (by (try simp only [List.map_toArray, List.map_cons, List.map_nil]); first | done | rfl | (simp only [List.length_drop, List.length_take]; rfl)) ?_; (with_reducible refine (laws_eqIntS.calls kj16 _ _ t490 _ _ t507 true _ ?side1 ?side2 ?side3 ?side4 A71.out).mono ?_); (case side1 => repeat (first | exact (Kd.R_reads' HO_11.out).2.2 | (with_reducible refine Kd.C_alloc ?_ _) | (with_reducible refine Kd.C_drewN ?_ _) | (with_reducible refine Kd.C_drew ?_))); (case side2 => exact (Kd.R_reads' HO_11.out).2.1); (case side3 => repeat (first | exact (Kd.R_reads' HO509.out).2.2 | (with_reducible refine Kd.C_alloc ?_ _) | (with_reducible refine Kd.C_drewN ?_ _) | (with_reducible refine Kd.C_drew ?_))); (case side4 => exact (Kd.R_reads' HO509.out).2.1); rintro e w' ⟨rfl, ⟨nd, rfl⟩⟩; refine ⟨_, rfl, ?_⟩; have hnb82 := NB489_467.out; have hnc82 := NB467_489.out; have hnb83 := NB489_483.out; have hnc83 := NB483_489.out; have hnb84 := NB489_499.out; have hnc84 := NB499_489.out; have hcz85_0 : w80.cell? ⟨gb489, 0, none⟩ = some (.int .i64 t484) := (blk_cell BK489.out 0).trans rfl; have hcz85_1 : w80.cell? ⟨gb489, 1, none⟩ = some (.int .i64 t485) := (blk_cell BK489.out 1).trans rfl; have hcz85_2 : w80.cell? ⟨gb489, 2, none⟩ = some (.slice Ao37 t486.length co37) := (blk_cell BK489.out 2).trans rfl; have hfz85_0 := blk_frozen BK489.out 0; have hfz85_1 := blk_frozen BK489.out 1; have hfz85_2 := blk_frozen BK489.out 2) | ((with_reducible refine gate_callee (f := 16) rfl ?_); refine goesL_ (some 68) rfl rfl Try.func16 (by kernel_rfl) rfl #[.agg #[.int .i64 t484, .int .i64 t485, .slice Ao37 t486.length co37], .int .i64 1] rfl (by (try simp only [List.map_toArray, List.map_cons, List.map_nil]); first | done | rfl | (simp only [List.length_drop, List.length_take]; rfl)) ?_; (with_reducible refine (laws_markBoard.calls kj16 t484 t485 (fun k_ => some k_ = (.slice Ao37 t486.length co37 : Value).ownBlock) (.slice Ao37 t486.length co37) t486 1 t511 t512 w _ ?side1 ?side2 A73.out).mono ?_); (case side1 => repeat (first | (with_reducible first | exact HB.out | apply below_alloc | apply pw_below_drewN | apply below_drew1 | refine below_set ?_ GE467.out | refine below_set ?_ GE483.out | refine below_set ?_ GE489.out | refine below_set ?_ GE499.out) | exact HB.out)); (case side2 => exact Kd.R_tight rfl HO_490002.out); rintro e w86 ⟨rfl, hy0, hb, hkp⟩; refine ⟨_, rfl, ?_⟩; have n0_ := Aside0.mk (Kd.R_mono (ok' := fun k_ => some k_ ≠ (.slice Ao81 t507.length co81 : Value).ownBlock) (Kd.R_keptB ((Kd.R_apart' HO_11.out (Kd.R_typed HO_490002.out) (by decide))) hkp (fun k_ hk_ hs_ => (hk_.2) hs_)) (fun k_ hk_ => hk_.1.1.2)); have n1_ := Aside0.mk (Kd.R_mono (ok' := fun k_ => some k_ ≠ (.slice Ao37 t486.length co37 : Value).ownBlock ∧ some k_ ≠ (.slice Ao47 t495.length co47 : Value).ownBlock ∧ some k_ ≠ (.slice Ao78 t503.length co78 : Value).ownBlock) (Kd.R_keptB (HO_484002.out) hkp (fun k_ hk_ hs_ => (hk_.1.1) hs_)) (fun k_ hk_ => ⟨hk_.1.1.1, hk_.1.1.2, hk_.1.2⟩)); have n2_ := Aside0.mk (Kd.R_reok rfl hy0 (fun k_ e_ => HO_490002.out.1 k_ e_)); have n3_ := Aside0.mk (Kd.R_mono (ok' := fun k_ => some k_ ≠ (.slice Ao30 t479.length co30 : Value).ownBlock ∧ some k_ ≠ (.slice Ao37 t486.length co37 : Value).ownBlock ∧ some k_ ≠ (.slice Ao78 t503.length co78 : Value).ownBlock) (Kd.R_keptB (HO_500002.out) hkp (fun k_ hk_ hs_ => (hk_.1.2) hs_)) (fun k_ hk_ => ⟨hk_.1.1.1, hk_.1.1.2, hk_.1.2⟩)); have n4_ := Aside0.mk (blk_kept (by (with_reducible repeat (first | refine blk_drewN ?_ _ | refine blk_drew ?_ | refine blk_alloc ?_ _)); exact BK467.out) hkp (fun hs_ => (fun e_ => (Kd.R_ne HO_490002.out BK467.out (by decide)) e_) hs_)); have n5_ := Aside0.mk (blk_kept (by (with_reducible repeat (first | refine blk_drewN ?_ _ | refine blk_drew ?_ | refine blk_alloc ?_ _)); exact BK483.out) hkp (fun hs_ => (fun e_ => (Kd.R_ne HO_490002.out BK483.out (by decide)) e_) hs_)); have n6_ := Aside0.mk (blk_kept (by (with_reducible repeat (first | refine blk_drewN ?_ _ | refine blk_drew ?_ | refine blk_alloc ?_ _)); exact BK489.out) hkp (fun hs_ => (fun e_ => (Kd.R_ne HO_490002.out BK489.out (by decide)) e_) hs_)); have n7_ := Aside0.mk (blk_kept (by (with_reducible repeat (first | refine blk_drewN ?_ _ | refine blk_drew ?_ | refine blk_alloc ?_ _)); exact BK499.out) hkp (fun hs_ => (fun e_ => (Kd.R_ne HO_490002.out BK499.out (by decide)) e_) hs_)); have n8_ := Aside0.mk (Kd.R_mono (ok' := fun k_ => some k_ ≠ (.slice Ao30 t479.length co30 : Value).ownBlock ∧ some k_ ≠ (.slice Ao37 t486.length co37 : Value).ownBlock ∧ some k_ ≠ (.slice Ao47 t495.length co47 : Value).ownBlock) (Kd.R_keptB (HO505.out) hkp (fun k_ hk_ hs_ => (hk_.1.2) hs_)) (fun k_ hk_ => ⟨hk_.1.1.1.2, hk_.1.1.2, hk_.1.2⟩)); have n9_ := Aside0.mk (Kd.R_mono (ok' := fun k_ => some k_ ≠ (.slice Ao40 t490.length co40 : Value).ownBlock) (Kd.R_keptB ((Kd.R_apart' HO509.out (Kd.R_typed HO_490002.out) (by decide))) hkp (fun k_ hk_ hs_ => (hk_.2) hs_)) (fun k_ hk_ => hk_.1.1.2)); have n10_ := Aside0.mk (hb); clear HO_11; clear HO_484002; clear HO_490002; clear HO_500002; clear BK467; clear BK483; clear BK489; clear BK499; clear HO505; clear HO509; clear HB; have HO_11 := n0_; have HO_484002 := n1_; have HO_490002 := n2_; have HO_500002 := n3_; have BK467 := n4_; have BK483 := n5_; have BK489 := n6_; have BK499 := n7_; have HO505 := n8_; have HO509 := n9_; have HB := n10_; clear n0_ n1_ n2_ n3_ n4_ n5_ n6_ n7_ n8_ n9_ n10_; (try clear hb); (try clear hkp); (try clear hy0)) | ((with_reducible refine gate_callee (f := 30) rfl ?_); refine goesL_ (some 71) rfl rfl Try.func30 (by kernel_rfl) rfl #[.slice Ao40 t490.length co40, .int .i64 t511] rfl (by (try simp only [List.map_toArray, List.map_cons, List.map_nil]); first | done | rfl | (simp only [List.length_drop, List.length_take]; rfl)) ?_; (with_reducible refine (laws_markIntS.calls kj16 (fun k_ => some k_ = (.slice Ao40 t490.length co40 : Value).ownBlock) (.slice Ao40 t490.length co40) t490 t511 t513 t514 w _ ?side1 ?side2 A74.out).mono ?_); (case side1 => repeat (first | (with_reducible first | exact HB.out | apply below_alloc | apply pw_below_drewN | apply below_drew1 | refine below_set ?_ GE467.out | refine below_set ?_ GE483.out | refine below_set ?_ GE489.out | refine below_set ?_ GE499.out) | exact HB.out)); (case side2 => exact Kd.R_tight rfl HO_11.out); rintro e w87 ⟨rfl, hy0, hb, hkp⟩; refine ⟨_, rfl, ?_⟩; have n0_ := Aside0.mk (Kd.R_reok rfl hy0 (fun k_ e_ => HO_11.out.1 k_ e_)); have n1_ := Aside0.mk (Kd.R_mono (ok' := fun k_ => some k_ ≠ (.slice Ao37 t486.length co37 : Value).ownBlock ∧ some k_ ≠ (.slice Ao47 t495.length co47 : Value).ownBlock ∧ some k_ ≠ (.slice Ao78 t503.length co78 : Value).ownBlock) (Kd.R_keptB ((Kd.R_apart' HO_484002.out (Kd.R_typed HO_11.out) (by decide))) hkp (fun k_ hk_ hs_ => (hk_.2) hs_)) (fun k_ hk_ => ⟨hk_.1.1.1, hk_.1.1.2.1, hk_.1.1.2.2⟩)); have n2_ := Aside0.mk (Kd.R_mono (ok' := fun k_ => some k_ ≠ (.slice Ao30 t479.length co30 : Value).ownBlock ∧ some k_ ≠ (.slice Ao47 t495.length co47 : Value).ownBlock ∧ some k_ ≠ (.slice Ao78 t503.length co78 : Value).ownBlock) (Kd.R_keptB ((Kd.R_apart' HO_490002.out (Kd.R_typed HO_11.out) (by decide))) hkp (fun k_ hk_ hs_ => (hk_.2) hs_)) (fun k_ hk_ => ⟨hk_.1.1.1.1, hk_.1.1.1.2, hk_.1.1.2⟩)); have n3_ := Aside0.mk (Kd.R_mono (ok' := fun k_ => some k_ ≠ (.slice Ao30 t479.length co30 : Value).ownBlock ∧ some k_ ≠ (.slice Ao37 t486.length co37 : Value).ownBlock ∧ some k_ ≠ (.slice Ao78 t503.length co78 : Value).ownBlock) (Kd.R_keptB ((Kd.R_apart' HO_500002.out (Kd.R_typed HO_11.out) (by decide))) hkp (fun k_ hk_ hs_ => (hk_.2) hs_)) (fun k_ hk_ => ⟨hk_.1.1.1, hk_.1.1.2.1, hk_.1.1.2.2⟩)); have n4_ := Aside0.mk (blk_kept (by (with_reducible repeat (first | refine blk_drewN ?_ _ | refine blk_drew ?_ | refine blk_alloc ?_ _)); exact BK467.out) hkp (fun hs_ => (fun e_ => (Kd.R_ne HO_11.out BK467.out (by decide)) e_) hs_)); have n5_ := Aside0.mk (blk_kept (by (with_reducible repeat (first | refine blk_drewN ?_ _ | refine blk_drew ?_ | refine blk_alloc ?_ _)); exact BK483.out) hkp (fun hs_ => (fun e_ => (Kd.R_ne HO_11.out BK483.out (by decide)) e_) hs_)); have n6_ := Aside0.mk (blk_kept (by (with_reducible repeat (first | refine blk_drewN ?_ _ | refine blk_drew ?_ | refine blk_alloc ?_ _)); exact BK489.out) hkp (fun hs_ => (fun e_ => (Kd.R_ne HO_11.out BK489.out (by decide)) e_) hs_)); have n7_ := Aside0.mk (blk_kept (by (with_reducible repeat (first | refine blk_drewN ?_ _ | refine blk_drew ?_ | refine blk_alloc ?_ _)); exact BK499.out) hkp (fun hs_ => (fun e_ => (Kd.R_ne HO_11.out BK499.out (by decide)) e_) hs_)); have n8_ := Aside0.mk (Kd.R_mono (ok' := fun k_ => some k_ ≠ (.slice Ao30 t479.length co30 : Value).ownBlock ∧ some k_ ≠ (.slice Ao37 t486.length co37 : Value).ownBlock ∧ some k_ ≠ (.slice Ao47 t495.length co47 : Value).ownBlock) (Kd.R_keptB ((Kd.R_apart' HO505.out (Kd.R_typed HO_11.out) (by decide))) hkp (fun k_ hk_ hs_ => (hk_.2) hs_)) (fun k_ hk_ => ⟨hk_.1.1.1, hk_.1.1.2.1, hk_.1.1.2.2⟩)); have n9_ := Aside0.mk (Kd.R_mono (ok' := fun k_ => some k_ ≠ (.slice Ao40 t490.length co40 : Value).ownBlock) (Kd.R_keptB (HO509.out) hkp (fun k_ hk_ hs_ => (hk_) hs_)) (fun k_ hk_ => hk_.1)); have n10_ := Aside0.mk (hb); clear HO_11; clear HO_484002; clear HO_490002; clear HO_500002; clear BK467; clear BK483; clear BK489; clear BK499; clear HO505; clear HO509; clear HB; have HO_11 := n0_; have HO_484002 := n1_; have HO_490002 := n2_; have HO_500002 := n3_; have BK467 := n4_; have BK483 := n5_; have BK489 := n6_; have BK499 := n7_; have HO505 := n8_; have HO509 := n9_; have HB := n10_; clear n0_ n1_ n2_ n3_ n4_ n5_ n6_ n7_ n8_ n9_ n10_; (try clear hb); (try clear hkp); (try clear hy0)))
                (try simp only [Act.put, List.setIfInBounds_toArray, List.set_cons_zero, List.set_cons_succ])
                go_cut [84] (fun v84 wc => ∃ (kq : Nat) (x84_74 : Bool), v84 = .bool x84_74 ∧ Aside0 (lw.j1 kq l1 a2 t482 x84_74 a0_0 a0_1 l0_2 t477 t478 t479 t493 t494 t495 = some r) ∧ Aside0 (kq ≤ kj16) ∧ Aside0 (Kd.R k71 71 wc w.heap.size (fun k_ => some k_ ≠ ((.slice Ao37 t486.length co37) : Value).ownBlock ∧ some k_ ≠ ((.slice Ao47 t495.length co47) : Value).ownBlock) (.slice Ao30 t479.length co30) t479) ∧ Aside0 (Kd.R k71 71 wc w.heap.size (fun k_ => some k_ ≠ ((.slice Ao30 t479.length co30) : Value).ownBlock ∧ some k_ ≠ ((.slice Ao47 t495.length co47) : Value).ownBlock) (.slice Ao37 t486.length co37) t512) ∧ Aside0 (Kd.R k71 71 wc w.heap.size (fun k_ => some k_ ≠ ((.slice Ao30 t479.length co30) : Value).ownBlock ∧ some k_ ≠ ((.slice Ao37 t486.length co37) : Value).ownBlock) (.slice Ao47 t495.length co47) t495) ∧ Aside0 (wc.heap[gb467]? = some (.cells #[.int .i64 a0_0, .int .i64 a0_1, (.slice A0_2 l0_2.length c0_2)] 32 (0, 0))) ∧ Aside0 (wc.heap[gb483]? = some (.cells #[.int .i64 t477, .int .i64 t478, (.slice Ao30 t479.length co30)] 24 (0, 0))) ∧ Aside0 (wc.heap[gb489]? = some (.cells #[.int .i64 t484, .int .i64 t485, (.slice Ao37 t486.length co37)] 24 (0, 0))) ∧ Aside0 (wc.heap[gb499]? = some (.cells #[.int .i64 t493, .int .i64 t494, (.slice Ao47 t495.length co47)] 24 (0, 0))) ∧ Aside0 (Below w.heap.size w wc))
                case first =>
                  have H := HC75.out
                  clear HC75
                  by_cases c88 : t513 < 0
                  · rw [if_pos c88] at H
                    have c88b0 : decide (t513 < 0) = true := decide_eq_true c88
                    clear c88
                    (first | rw [c88b0] | (simp only [i64_w, i32_w]; rw [c88b0]) | skip)
                    have H' := Aside0.mk H
                    clear H
                    go_wp2
                    go_meet
                    case rel => exact ⟨_, (true), (by first | rfl | (simp; done) | (simp [*]; done)), H', ⟨by have := HJ16.out; first | omega | exact Nat.le_refl _⟩, ⟨by (with_reducible repeat (first | apply Kd.R_alloc | apply Kd.R_drewN | apply Kd.R_drew)); exact Kd.R_mono HO_484002.out (fun _ hk => ⟨hk.1, hk.2.1⟩)⟩, ⟨by (with_reducible repeat (first | apply Kd.R_alloc | apply Kd.R_drewN | apply Kd.R_drew)); exact Kd.R_mono HO_490002.out (fun _ hk => ⟨hk.1, hk.2.1⟩)⟩, ⟨by (with_reducible repeat (first | apply Kd.R_alloc | apply Kd.R_drewN | apply Kd.R_drew)); exact Kd.R_mono HO_500002.out (fun _ hk => ⟨hk.1, hk.2.1⟩)⟩, ⟨by (with_reducible repeat (first | refine blk_drewN ?_ _ | refine blk_drew ?_ | refine blk_alloc ?_ _)); exact BK467.out⟩, ⟨by (with_reducible repeat (first | refine blk_drewN ?_ _ | refine blk_drew ?_ | refine blk_alloc ?_ _)); exact BK483.out⟩, ⟨by (with_reducible repeat (first | refine blk_drewN ?_ _ | refine blk_drew ?_ | refine blk_alloc ?_ _)); exact BK489.out⟩, ⟨by (with_reducible repeat (first | refine blk_drewN ?_ _ | refine blk_drew ?_ | refine blk_alloc ?_ _)); exact BK499.out⟩, ⟨by repeat (first | (with_reducible first | exact HB.out | apply below_alloc | apply pw_below_drewN | apply below_drew1 | refine below_set ?_ GE467.out | refine below_set ?_ GE483.out | refine below_set ?_ GE489.out | refine below_set ?_ GE499.out) | exact HB.out)⟩⟩
                  · rw [if_neg c88] at H
                    have c88b0 : decide (t513 < 0) = false := decide_eq_false c88
                    clear c88
                    (first | rw [c88b0] | (simp only [i64_w, i32_w]; rw [c88b0]) | skip)
                    replace H := Option.bind_eq_some_iff.mp H
                    obtain ⟨t515, A890, H⟩ := H
                    replace H : (if t515 = true then (lw.j1 kj16 l1 a2 t482 (t498 != t482) a0_0 a0_1 l0_2 t477 t478 t479 t493 t494 t495) else (lw.j1 kj16 l1 a2 t482 true a0_0 a0_1 l0_2 t477 t478 t479 t493 t494 t495)) = some r := H
                    have A89 := Aside0.mk A890
                    clear A890
                    by_cases c90 : t515 = true
                    · subst c90
                      have H1 : (lw.j1 kj16 l1 a2 t482 (t498 != t482) a0_0 a0_1 l0_2 t477 t478 t479 t493 t494 t495) = some r := by rw [if_pos rfl] at H; exact H
                      clear H
                      have H := H1
                      clear H1
                      have H' := Aside0.mk H
                      clear H
                      have hnb91 := NB499_467.out
                      have hnc91 := NB467_499.out
                      have hnb92 := NB499_483.out
                      have hnc92 := NB483_499.out
                      have hnb93 := NB499_489.out
                      have hnc93 := NB489_499.out
                      have hcz94_0 : w87.cell? ⟨gb499, 0, none⟩ = some (.int .i64 t493) := (blk_cell BK499.out 0).trans rfl
                      have hcz94_1 : w87.cell? ⟨gb499, 1, none⟩ = some (.int .i64 t494) := (blk_cell BK499.out 1).trans rfl
                      have hcz94_2 : w87.cell? ⟨gb499, 2, none⟩ = some (.slice Ao47 t495.length co47) := (blk_cell BK499.out 2).trans rfl
                      have hfz94_0 := blk_frozen BK499.out 0
                      have hfz94_1 := blk_frozen BK499.out 1
                      have hfz94_2 := blk_frozen BK499.out 2
                      have hnb95 := NB483_467.out
                      have hnc95 := NB467_483.out
                      have hnb96 := NB483_489.out
                      have hnc96 := NB489_483.out
                      have hcz97_0 : w87.cell? ⟨gb483, 0, none⟩ = some (.int .i64 t477) := (blk_cell BK483.out 0).trans rfl
                      have hcz97_1 : w87.cell? ⟨gb483, 1, none⟩ = some (.int .i64 t478) := (blk_cell BK483.out 1).trans rfl
                      have hcz97_2 : w87.cell? ⟨gb483, 2, none⟩ = some (.slice Ao30 t479.length co30) := (blk_cell BK483.out 2).trans rfl
                      have hfz97_0 := blk_frozen BK483.out 0
                      have hfz97_1 := blk_frozen BK483.out 1
                      have hfz97_2 := blk_frozen BK483.out 2
                      go_wp2_with (first | (go_at_call 15; (with_reducible refine (laws_eqBoard.calls kj16 t493 t494 _ _ t495 t477 t478 _ _ t479 true _ ?side1 ?side2 ?side3 ?side4 A89.out).mono ?_); (case side1 => repeat (first | exact (Kd.R_reads' HO_500002.out).2.2 | (with_reducible refine Kd.C_alloc ?_ _) | (with_reducible refine Kd.C_drewN ?_ _) | (with_reducible refine Kd.C_drew ?_))); (case side2 => exact (Kd.R_reads' HO_500002.out).2.1); (case side3 => repeat (first | exact (Kd.R_reads' HO_484002.out).2.2 | (with_reducible refine Kd.C_alloc ?_ _) | (with_reducible refine Kd.C_drewN ?_ _) | (with_reducible refine Kd.C_drew ?_))); (case side4 => exact (Kd.R_reads' HO_484002.out).2.1); rintro e w98 ⟨rfl, hb⟩; have n0_ := Aside0.mk (Kd.R_below (by (with_reducible repeat (first | apply Kd.R_alloc | apply Kd.R_drewN | apply Kd.R_drew)); exact HO_11.out) hb); have n1_ := Aside0.mk (Kd.R_below (by (with_reducible repeat (first | apply Kd.R_alloc | apply Kd.R_drewN | apply Kd.R_drew)); exact HO_484002.out) hb); have n2_ := Aside0.mk (Kd.R_below (by (with_reducible repeat (first | apply Kd.R_alloc | apply Kd.R_drewN | apply Kd.R_drew)); exact HO_490002.out) hb); have n3_ := Aside0.mk (Kd.R_below (by (with_reducible repeat (first | apply Kd.R_alloc | apply Kd.R_drewN | apply Kd.R_drew)); exact HO_500002.out) hb); have n4_ := Aside0.mk (Kd.R_below (by (with_reducible repeat (first | apply Kd.R_alloc | apply Kd.R_drewN | apply Kd.R_drew)); exact HO505.out) hb); have n5_ := Aside0.mk (Kd.R_below (by (with_reducible repeat (first | apply Kd.R_alloc | apply Kd.R_drewN | apply Kd.R_drew)); exact HO509.out) hb); have n6_ := Aside0.mk (blk_below (g := gb467) (o := .cells #[.int .i64 a0_0, .int .i64 a0_1, .slice A0_2 l0_2.length c0_2] 32 (0, 0)) (by (with_reducible repeat (first | refine blk_drewN ?_ _ | refine blk_drew ?_ | refine blk_alloc ?_ _)); exact BK467.out) hb); have n7_ := Aside0.mk (blk_below (g := gb483) (o := .cells #[.int .i64 t477, .int .i64 t478, .slice Ao30 t479.length co30] 24 (0, 0)) (by (with_reducible repeat (first | refine blk_drewN ?_ _ | refine blk_drew ?_ | refine blk_alloc ?_ _)); exact BK483.out) hb); have n8_ := Aside0.mk (blk_below (g := gb489) (o := .cells #[.int .i64 t484, .int .i64 t485, .slice Ao37 t486.length co37] 24 (0, 0)) (by (with_reducible repeat (first | refine blk_drewN ?_ _ | refine blk_drew ?_ | refine blk_alloc ?_ _)); exact BK489.out) hb); have n9_ := Aside0.mk (blk_below (g := gb499) (o := .cells #[.int .i64 t493, .int .i64 t494, .slice Ao47 t495.length co47] 24 (0, 0)) (by (with_reducible repeat (first | refine blk_drewN ?_ _ | refine blk_drew ?_ | refine blk_alloc ?_ _)); exact BK499.out) hb); have n10_ := Aside0.mk (below_step (by repeat (first | (with_reducible first | exact HB.out | apply below_alloc | apply pw_below_drewN | apply below_drew1 | refine below_set ?_ GE467.out | refine below_set ?_ GE483.out | refine below_set ?_ GE489.out | refine below_set ?_ GE499.out) | exact HB.out)) hb); clear HO_11; clear HO_484002; clear HO_490002; clear HO_500002; clear HO505; clear HO509; clear BK467; clear BK483; clear BK489; clear BK499; clear HB; have HO_11 := n0_; have HO_484002 := n1_; have HO_490002 := n2_; have HO_500002 := n3_; have HO505 := n4_; have HO509 := n5_; have BK467 := n6_; have BK483 := n7_; have BK489 := n8_; have BK499 := n9_; have HB := n10_; clear n0_ n1_ n2_ n3_ n4_ n5_ n6_ n7_ n8_ n9_ n10_; (try clear hb); (try clear hb2); (try clear hk); (try clear hi)))
                      go_meet
                      case rel => exact ⟨_, ((t498 != t482)), (by first | rfl | (simp; done) | (simp [*]; done)), H', ⟨by have := HJ16.out; first | omega | exact Nat.le_refl _⟩, ⟨by (with_reducible repeat (first | apply Kd.R_alloc | apply Kd.R_drewN | apply Kd.R_drew)); exact Kd.R_mono HO_484002.out (fun _ hk => ⟨hk.1, hk.2.1⟩)⟩, ⟨by (with_reducible repeat (first | apply Kd.R_alloc | apply Kd.R_drewN | apply Kd.R_drew)); exact Kd.R_mono HO_490002.out (fun _ hk => ⟨hk.1, hk.2.1⟩)⟩, ⟨by (with_reducible repeat (first | apply Kd.R_alloc | apply Kd.R_drewN | apply Kd.R_drew)); exact Kd.R_mono HO_500002.out (fun _ hk => ⟨hk.1, hk.2.1⟩)⟩, ⟨by (with_reducible repeat (first | refine blk_drewN ?_ _ | refine blk_drew ?_ | refine blk_alloc ?_ _)); exact BK467.out⟩, ⟨by (with_reducible repeat (first | refine blk_drewN ?_ _ | refine blk_drew ?_ | refine blk_alloc ?_ _)); exact BK483.out⟩, ⟨by (with_reducible repeat (first | refine blk_drewN ?_ _ | refine blk_drew ?_ | refine blk_alloc ?_ _)); exact BK489.out⟩, ⟨by (with_reducible repeat (first | refine blk_drewN ?_ _ | refine blk_drew ?_ | refine blk_alloc ?_ _)); exact BK499.out⟩, ⟨by repeat (first | (with_reducible first | exact HB.out | apply below_alloc | apply pw_below_drewN | apply below_drew1 | refine below_set ?_ GE467.out | refine below_set ?_ GE483.out | refine below_set ?_ GE489.out | refine below_set ?_ GE499.out) | exact HB.out)⟩⟩
                    · replace c90 := Bool.eq_false_iff.mpr c90
                      subst c90
                      have H1 : (lw.j1 kj16 l1 a2 t482 true a0_0 a0_1 l0_2 t477 t478 t479 t493 t494 t495) = some r := by rw [if_neg (show ¬ (false = true) by decide)] at H; exact H
                      clear H
                      have H := H1
                      clear H1
                      have H' := Aside0.mk H
                      clear H
                      have hnb99 := NB499_467.out
                      have hnc99 := NB467_499.out
                      have hnb100 := NB499_483.out
                      have hnc100 := NB483_499.out
                      have hnb101 := NB499_489.out
                      have hnc101 := NB489_499.out
                      have hcz102_0 : w87.cell? ⟨gb499, 0, none⟩ = some (.int .i64 t493) := (blk_cell BK499.out 0).trans rfl
                      have hcz102_1 : w87.cell? ⟨gb499, 1, none⟩ = some (.int .i64 t494) := (blk_cell BK499.out 1).trans rfl
                      have hcz102_2 : w87.cell? ⟨gb499, 2, none⟩ = some (.slice Ao47 t495.length co47) := (blk_cell BK499.out 2).trans rfl
                      have hfz102_0 := blk_frozen BK499.out 0
                      have hfz102_1 := blk_frozen BK499.out 1
                      have hfz102_2 := blk_frozen BK499.out 2
                      have hnb103 := NB483_467.out
                      have hnc103 := NB467_483.out
                      have hnb104 := NB483_489.out
                      have hnc104 := NB489_483.out
                      have hcz105_0 : w87.cell? ⟨gb483, 0, none⟩ = some (.int .i64 t477) := (blk_cell BK483.out 0).trans rfl
                      have hcz105_1 : w87.cell? ⟨gb483, 1, none⟩ = some (.int .i64 t478) := (blk_cell BK483.out 1).trans rfl
                      have hcz105_2 : w87.cell? ⟨gb483, 2, none⟩ = some (.slice Ao30 t479.length co30) := (blk_cell BK483.out 2).trans rfl
                      have hfz105_0 := blk_frozen BK483.out 0
                      have hfz105_1 := blk_frozen BK483.out 1
                      have hfz105_2 := blk_frozen BK483.out 2
                      go_wp2_with (first | (go_at_call 15; (with_reducible refine (laws_eqBoard.calls kj16 t493 t494 _ _ t495 t477 t478 _ _ t479 false _ ?side1 ?side2 ?side3 ?side4 A89.out).mono ?_); (case side1 => repeat (first | exact (Kd.R_reads' HO_500002.out).2.2 | (with_reducible refine Kd.C_alloc ?_ _) | (with_reducible refine Kd.C_drewN ?_ _) | (with_reducible refine Kd.C_drew ?_))); (case side2 => exact (Kd.R_reads' HO_500002.out).2.1); (case side3 => repeat (first | exact (Kd.R_reads' HO_484002.out).2.2 | (with_reducible refine Kd.C_alloc ?_ _) | (with_reducible refine Kd.C_drewN ?_ _) | (with_reducible refine Kd.C_drew ?_))); (case side4 => exact (Kd.R_reads' HO_484002.out).2.1); rintro e w106 ⟨rfl, hb⟩; have n0_ := Aside0.mk (Kd.R_below (by (with_reducible repeat (first | apply Kd.R_alloc | apply Kd.R_drewN | apply Kd.R_drew)); exact HO_11.out) hb); have n1_ := Aside0.mk (Kd.R_below (by (with_reducible repeat (first | apply Kd.R_alloc | apply Kd.R_drewN | apply Kd.R_drew)); exact HO_484002.out) hb); have n2_ := Aside0.mk (Kd.R_below (by (with_reducible repeat (first | apply Kd.R_alloc | apply Kd.R_drewN | apply Kd.R_drew)); exact HO_490002.out) hb); have n3_ := Aside0.mk (Kd.R_below (by (with_reducible repeat (first | apply Kd.R_alloc | apply Kd.R_drewN | apply Kd.R_drew)); exact HO_500002.out) hb); have n4_ := Aside0.mk (Kd.R_below (by (with_reducible repeat (first | apply Kd.R_alloc | apply Kd.R_drewN | apply Kd.R_drew)); exact HO505.out) hb); have n5_ := Aside0.mk (Kd.R_below (by (with_reducible repeat (first | apply Kd.R_alloc | apply Kd.R_drewN | apply Kd.R_drew)); exact HO509.out) hb); have n6_ := Aside0.mk (blk_below (g := gb467) (o := .cells #[.int .i64 a0_0, .int .i64 a0_1, .slice A0_2 l0_2.length c0_2] 32 (0, 0)) (by (with_reducible repeat (first | refine blk_drewN ?_ _ | refine blk_drew ?_ | refine blk_alloc ?_ _)); exact BK467.out) hb); have n7_ := Aside0.mk (blk_below (g := gb483) (o := .cells #[.int .i64 t477, .int .i64 t478, .slice Ao30 t479.length co30] 24 (0, 0)) (by (with_reducible repeat (first | refine blk_drewN ?_ _ | refine blk_drew ?_ | refine blk_alloc ?_ _)); exact BK483.out) hb); have n8_ := Aside0.mk (blk_below (g := gb489) (o := .cells #[.int .i64 t484, .int .i64 t485, .slice Ao37 t486.length co37] 24 (0, 0)) (by (with_reducible repeat (first | refine blk_drewN ?_ _ | refine blk_drew ?_ | refine blk_alloc ?_ _)); exact BK489.out) hb); have n9_ := Aside0.mk (blk_below (g := gb499) (o := .cells #[.int .i64 t493, .int .i64 t494, .slice Ao47 t495.length co47] 24 (0, 0)) (by (with_reducible repeat (first | refine blk_drewN ?_ _ | refine blk_drew ?_ | refine blk_alloc ?_ _)); exact BK499.out) hb); have n10_ := Aside0.mk (below_step (by repeat (first | (with_reducible first | exact HB.out | apply below_alloc | apply pw_below_drewN | apply below_drew1 | refine below_set ?_ GE467.out | refine below_set ?_ GE483.out | refine below_set ?_ GE489.out | refine below_set ?_ GE499.out) | exact HB.out)) hb); clear HO_11; clear HO_484002; clear HO_490002; clear HO_500002; clear HO505; clear HO509; clear BK467; clear BK483; clear BK489; clear BK499; clear HB; have HO_11 := n0_; have HO_484002 := n1_; have HO_490002 := n2_; have HO_500002 := n3_; have HO505 := n4_; have HO509 := n5_; have BK467 := n6_; have BK483 := n7_; have BK489 := n8_; have BK499 := n9_; have HB := n10_; clear n0_ n1_ n2_ n3_ n4_ n5_ n6_ n7_ n8_ n9_ n10_; (try clear hb); (try clear hb2); (try clear hk); (try clear hi)))
                      go_meet
                      case rel => exact ⟨_, (true), (by first | rfl | (simp; done) | (simp [*]; done)), H', ⟨by have := HJ16.out; first | omega | exact Nat.le_refl _⟩, ⟨by (with_reducible repeat (first | apply Kd.R_alloc | apply Kd.R_drewN | apply Kd.R_drew)); exact Kd.R_mono HO_484002.out (fun _ hk => ⟨hk.1, hk.2.1⟩)⟩, ⟨by (with_reducible repeat (first | apply Kd.R_alloc | apply Kd.R_drewN | apply Kd.R_drew)); exact Kd.R_mono HO_490002.out (fun _ hk => ⟨hk.1, hk.2.1⟩)⟩, ⟨by (with_reducible repeat (first | apply Kd.R_alloc | apply Kd.R_drewN | apply Kd.R_drew)); exact Kd.R_mono HO_500002.out (fun _ hk => ⟨hk.1, hk.2.1⟩)⟩, ⟨by (with_reducible repeat (first | refine blk_drewN ?_ _ | refine blk_drew ?_ | refine blk_alloc ?_ _)); exact BK467.out⟩, ⟨by (with_reducible repeat (first | refine blk_drewN ?_ _ | refine blk_drew ?_ | refine blk_alloc ?_ _)); exact BK483.out⟩, ⟨by (with_reducible repeat (first | refine blk_drewN ?_ _ | refine blk_drew ?_ | refine blk_alloc ?_ _)); exact BK489.out⟩, ⟨by (with_reducible repeat (first | refine blk_drewN ?_ _ | refine blk_drew ?_ | refine blk_alloc ?_ _)); exact BK499.out⟩, ⟨by repeat (first | (with_reducible first | exact HB.out | apply below_alloc | apply pw_below_drewN | apply below_drew1 | refine below_set ?_ GE467.out | refine below_set ?_ GE483.out | refine below_set ?_ GE489.out | refine below_set ?_ GE499.out) | exact HB.out)⟩⟩
                case rest =>
                  clear HC75
                  try clear c1
                  try clear c2
                  try clear p2
                  try clear c3
                  try clear c4
                  try clear c4b0
                  try clear c4b1
                  try clear c5
                  try clear c6
                  try clear c7
                  try clear c7b0
                  try clear c8
                  try clear c9
                  try clear c10
                  try clear c15
                  try clear c16
                  try clear c18
                  try clear c20
                  try clear c25
                  try clear c27
                  try clear c28
                  try clear c29
                  try clear c30
                  try clear c34
                  try clear c35
                  try clear c43
                  try clear c44
                  try clear c45
                  try clear c49
                  try clear c50
                  try clear c51
                  try clear c52
                  try clear c54
                  try clear c55
                  try clear c58
                  try clear c59
                  try clear c60
                  try clear c62
                  try clear c63
                  try clear c66
                  try clear c69
                  try clear c72
                  try clear c82
                  try clear c83
                  try clear c84
                  try clear c88
                  try clear c88b0
                  try clear c90
                  try clear c91
                  try clear c92
                  try clear c93
                  try clear c95
                  try clear c96
                  try clear c99
                  try clear c100
                  try clear c101
                  try clear c103
                  try clear c104
                  try clear hcz102_0
                  try clear hcz102_1
                  try clear hcz102_2
                  try clear hcz105_0
                  try clear hcz105_1
                  try clear hcz105_2
                  try clear hcz19_0
                  try clear hcz19_1
                  try clear hcz19_2
                  try clear hcz21_0
                  try clear hcz21_1
                  try clear hcz21_2
                  try clear hcz29_0
                  try clear hcz29_1
                  try clear hcz29_2
                  try clear hcz31_0
                  try clear hcz31_1
                  try clear hcz31_2
                  try clear hcz36_0
                  try clear hcz36_1
                  try clear hcz36_2
                  try clear hcz39_0
                  try clear hcz39_1
                  try clear hcz39_2
                  try clear hcz46_0
                  try clear hcz46_1
                  try clear hcz46_2
                  try clear hcz53_0
                  try clear hcz53_1
                  try clear hcz53_2
                  try clear hcz56_0
                  try clear hcz56_1
                  try clear hcz56_2
                  try clear hcz61_0
                  try clear hcz61_1
                  try clear hcz61_2
                  try clear hcz64_0
                  try clear hcz64_1
                  try clear hcz64_2
                  try clear hcz85_0
                  try clear hcz85_1
                  try clear hcz85_2
                  try clear hcz94_0
                  try clear hcz94_1
                  try clear hcz94_2
                  try clear hcz97_0
                  try clear hcz97_1
                  try clear hcz97_2
                  try clear hcz9_0
                  try clear hcz9_1
                  try clear hcz9_2
                  try clear hfz102_0
                  try clear hfz102_1
                  try clear hfz102_2
                  try clear hfz105_0
                  try clear hfz105_1
                  try clear hfz105_2
                  try clear hfz19_0
                  try clear hfz19_1
                  try clear hfz19_2
                  try clear hfz21_0
                  try clear hfz21_1
                  try clear hfz21_2
                  try clear hfz29_0
                  try clear hfz29_1
                  try clear hfz29_2
                  try clear hfz31_0
                  try clear hfz31_1
                  try clear hfz31_2
                  try clear hfz36_0
                  try clear hfz36_1
                  try clear hfz36_2
                  try clear hfz39_0
                  try clear hfz39_1
                  try clear hfz39_2
                  try clear hfz46_0
                  try clear hfz46_1
                  try clear hfz46_2
                  try clear hfz53_0
                  try clear hfz53_1
                  try clear hfz53_2
                  try clear hfz56_0
                  try clear hfz56_1
                  try clear hfz56_2
                  try clear hfz61_0
                  try clear hfz61_1
                  try clear hfz61_2
                  try clear hfz64_0
                  try clear hfz64_1
                  try clear hfz64_2
                  try clear hfz85_0
                  try clear hfz85_1
                  try clear hfz85_2
                  try clear hfz94_0
                  try clear hfz94_1
                  try clear hfz94_2
                  try clear hfz97_0
                  try clear hfz97_1
                  try clear hfz97_2
                  try clear hfz9_0
                  try clear hfz9_1
                  try clear hfz9_2
                  try clear p2
                  obtain ⟨kq, x84_74, rfl, HA, HJ74, HO_484002, HO_490002, HO_500002, BK467, BK483, BK489, BK499, HB⟩ := hcut
                  have hl490002_74 := (Kd.R_reads' HO_490002.out).1
                  rw [hl490002_74] at HO_490002
                  (try simp only [hl490002_74])
                  (try simp only [hl490002_74] at BK467)
                  (try simp only [hl490002_74] at BK483)
                  (try simp only [hl490002_74] at BK489)
                  (try simp only [hl490002_74] at BK499)
                  (try simp only [hl490002_74] at HO_484002)
                  (try simp only [hl490002_74] at HO_500002)
                  cases kq with
                  | zero => exact absurd HA.out (by simp [lw.j1])
                  | succ kj74 =>
                    have H := HA.out
                    clear HA
                    simp only [lw.j1] at H
                    by_cases c107 : x84_74 = true
                    · subst c107
                      have H1 : (some false) = some r := by rw [if_pos rfl] at H; exact H
                      clear H
                      have H := H1
                      clear H1
                      obtain rfl := Option.some.inj H
                      go_wp2
                      go_ret
                      exact ⟨by first | rfl | (simp [errW_none, errW_some] <;> rfl) | (simp [*, errW_none, errW_some] <;> rfl), by repeat (first | (with_reducible first | exact HB.out | apply below_alloc | apply pw_below_drewN | apply below_drew1 | refine below_set ?_ GE467.out | refine below_set ?_ GE483.out | refine below_set ?_ GE489.out | refine below_set ?_ GE499.out) | exact HB.out)⟩
                    · replace c107 := Bool.eq_false_iff.mpr c107
                      subst c107
                      have H1 : ((laws_markBoard.f kj74 t493 t494 t495 1).bind fun bt516 => ((laws_heldBoard.f kj74 t493 t494 bt516.2 1).bind fun t518 => (if t518 < 0 then (some false) else (if t518 = bt516.1 then ((laws_toBoard.f kj74 a0_0 a0_1 l0_2).bind fun bt519 => ((laws_toIntS.f kj74 l1).bind fun t524 => ((impl_WithBitsValue.f kj74 bt519.1 bt519.2.1 bt519.2.2 t524 a2).bind fun bt527 => ((laws_eqBoard.f kj74 bt527.1 bt527.2.1 bt527.2.2.1 t477 t478 t479).bind fun t534 => (if t534 = true then (lw.j2 kj74 bt516.1 (bt527.2.2.2 != t482) t493 t494 bt516.2) else (lw.j2 kj74 bt516.1 true t493 t494 bt516.2)))))) else (some false))))) = some r := by rw [if_neg (show ¬ (false = true) by decide)] at H; exact H
                      clear H
                      have H := H1
                      clear H1
                      replace H := Option.bind_eq_some_iff.mp H
                      obtain ⟨⟨t516, t517⟩, A1080, H⟩ := H
                      replace H : ((laws_heldBoard.f kj74 t493 t494 t517 1).bind fun t518 => (if t518 < 0 then (some false) else (if t518 = t516 then ((laws_toBoard.f kj74 a0_0 a0_1 l0_2).bind fun bt519 => ((laws_toIntS.f kj74 l1).bind fun t524 => ((impl_WithBitsValue.f kj74 bt519.1 bt519.2.1 bt519.2.2 t524 a2).bind fun bt527 => ((laws_eqBoard.f kj74 bt527.1 bt527.2.1 bt527.2.2.1 t477 t478 t479).bind fun t534 => (if t534 = true then (lw.j2 kj74 t516 (bt527.2.2.2 != t482) t493 t494 t517) else (lw.j2 kj74 t516 true t493 t494 t517)))))) else (some false)))) = some r := H
                      have A108 := Aside0.mk A1080
                      clear A1080
                      replace H := Option.bind_eq_some_iff.mp H
                      obtain ⟨t518, A1090, H⟩ := H
                      replace H : (if t518 < 0 then (some false) else (if t518 = t516 then ((laws_toBoard.f kj74 a0_0 a0_1 l0_2).bind fun bt519 => ((laws_toIntS.f kj74 l1).bind fun t524 => ((impl_WithBitsValue.f kj74 bt519.1 bt519.2.1 bt519.2.2 t524 a2).bind fun bt527 => ((laws_eqBoard.f kj74 bt527.1 bt527.2.1 bt527.2.2.1 t477 t478 t479).bind fun t534 => (if t534 = true then (lw.j2 kj74 t516 (bt527.2.2.2 != t482) t493 t494 t517) else (lw.j2 kj74 t516 true t493 t494 t517)))))) else (some false))) = some r := H
                      have A109 := Aside0.mk A1090
                      clear A1090
                      by_cases c110 : t518 < 0
                      · rw [if_pos c110] at H
                        have c110b0 : decide (t518 < 0) = true := decide_eq_true c110
                        clear c110
                        obtain rfl := Option.some.inj H
                        have hnb111 := NB499_467.out
                        have hnc111 := NB467_499.out
                        have hnb112 := NB499_483.out
                        have hnc112 := NB483_499.out
                        have hnb113 := NB499_489.out
                        have hnc113 := NB489_499.out
                        have hcz114_0 : wc.cell? ⟨gb499, 0, none⟩ = some (.int .i64 t493) := (blk_cell BK499.out 0).trans rfl
                        have hcz114_1 : wc.cell? ⟨gb499, 1, none⟩ = some (.int .i64 t494) := (blk_cell BK499.out 1).trans rfl
                        have hcz114_2 : wc.cell? ⟨gb499, 2, none⟩ = some (.slice Ao47 t495.length co47) := (blk_cell BK499.out 2).trans rfl
                        have hfz114_0 := blk_frozen BK499.out 0
                        have hfz114_1 := blk_frozen BK499.out 1
                        have hfz114_2 := blk_frozen BK499.out 2
                        go_wp2_with (first | ((with_reducible refine gate_callee (f := 16) rfl ?_); refine goesL_ (some 87) rfl rfl Try.func16 (by kernel_rfl) rfl #[.agg #[.int .i64 t493, .int .i64 t494, .slice Ao47 t495.length co47], .int .i64 1] rfl (by (try simp only [List.map_toArray, List.map_cons, List.map_nil]); first | done | rfl | (simp only [List.length_drop, List.length_take]; rfl)) ?_; (with_reducible refine (laws_markBoard.calls kj74 t493 t494 (fun k_ => some k_ = (.slice Ao47 t495.length co47 : Value).ownBlock) (.slice Ao47 t495.length co47) t495 1 t516 t517 w _ ?side1 ?side2 A108.out).mono ?_); (case side1 => repeat (first | (with_reducible first | exact HB.out | apply below_alloc | apply pw_below_drewN | apply below_drew1 | refine below_set ?_ GE467.out | refine below_set ?_ GE483.out | refine below_set ?_ GE489.out | refine below_set ?_ GE499.out) | exact HB.out)); (case side2 => exact Kd.R_tight rfl HO_500002.out); rintro e w115 ⟨rfl, hy0, hb, hkp⟩; refine ⟨_, rfl, ?_⟩; have n0_ := Aside0.mk (Kd.R_mono (ok' := fun k_ => some k_ ≠ (.slice Ao37 t512.length co37 : Value).ownBlock ∧ some k_ ≠ (.slice Ao47 t495.length co47 : Value).ownBlock) (Kd.R_keptB (HO_484002.out) hkp (fun k_ hk_ hs_ => (hk_.2) hs_)) (fun k_ hk_ => ⟨hk_.1.1, hk_.1.2⟩)); have n1_ := Aside0.mk (Kd.R_mono (ok' := fun k_ => some k_ ≠ (.slice Ao30 t479.length co30 : Value).ownBlock ∧ some k_ ≠ (.slice Ao47 t495.length co47 : Value).ownBlock) (Kd.R_keptB (HO_490002.out) hkp (fun k_ hk_ hs_ => (hk_.2) hs_)) (fun k_ hk_ => ⟨hk_.1.1, hk_.1.2⟩)); have n2_ := Aside0.mk (Kd.R_reok rfl hy0 (fun k_ e_ => HO_500002.out.1 k_ e_)); have n3_ := Aside0.mk (blk_kept (by (with_reducible repeat (first | refine blk_drewN ?_ _ | refine blk_drew ?_ | refine blk_alloc ?_ _)); exact BK467.out) hkp (fun hs_ => (fun e_ => (Kd.R_ne HO_500002.out BK467.out (by decide)) e_) hs_)); have n4_ := Aside0.mk (blk_kept (by (with_reducible repeat (first | refine blk_drewN ?_ _ | refine blk_drew ?_ | refine blk_alloc ?_ _)); exact BK483.out) hkp (fun hs_ => (fun e_ => (Kd.R_ne HO_500002.out BK483.out (by decide)) e_) hs_)); have n5_ := Aside0.mk (blk_kept (by (with_reducible repeat (first | refine blk_drewN ?_ _ | refine blk_drew ?_ | refine blk_alloc ?_ _)); exact BK489.out) hkp (fun hs_ => (fun e_ => (Kd.R_ne HO_500002.out BK489.out (by decide)) e_) hs_)); have n6_ := Aside0.mk (blk_kept (by (with_reducible repeat (first | refine blk_drewN ?_ _ | refine blk_drew ?_ | refine blk_alloc ?_ _)); exact BK499.out) hkp (fun hs_ => (fun e_ => (Kd.R_ne HO_500002.out BK499.out (by decide)) e_) hs_)); have n7_ := Aside0.mk (hb); clear HO_484002; clear HO_490002; clear HO_500002; clear BK467; clear BK483; clear BK489; clear BK499; clear HB; have HO_484002 := n0_; have HO_490002 := n1_; have HO_500002 := n2_; have BK467 := n3_; have BK483 := n4_; have BK489 := n5_; have BK499 := n6_; have HB := n7_; clear n0_ n1_ n2_ n3_ n4_ n5_ n6_ n7_; (try clear hb); (try clear hkp); (try clear hy0); have hcz116_0 : w115.cell? ⟨gb499, 0, none⟩ = some (.int .i64 t493) := (blk_cell BK499.out 0).trans rfl; have hcz116_1 : w115.cell? ⟨gb499, 1, none⟩ = some (.int .i64 t494) := (blk_cell BK499.out 1).trans rfl; have hcz116_2 : w115.cell? ⟨gb499, 2, none⟩ = some (.slice Ao47 t495.length co47) := (blk_cell BK499.out 2).trans rfl; have hfz116_0 := blk_frozen BK499.out 0; have hfz116_1 := blk_frozen BK499.out 1; have hfz116_2 := blk_frozen BK499.out 2) | ((with_reducible refine gate_callee (f := 17) rfl ?_); refine goesL_ (some 90) rfl rfl Try.func17 (by kernel_rfl) rfl #[.agg #[.int .i64 t493, .int .i64 t494, .slice Ao47 t517.length co47], .int .i64 1] rfl (by (try simp only [List.map_toArray, List.map_cons, List.map_nil]); first | done | (rw [show t517.length = t495.length from (Kd.R_reads' HO_500002.out).1.symm] <;> rfl) | rfl | (simp only [List.length_drop, List.length_take]; rfl)) ?_; (with_reducible refine (laws_heldBoard.calls kj74 t493 t494 _ _ t517 1 t518 _ ?side1 ?side2 A109.out).mono ?_); (case side1 => repeat (first | exact (Kd.R_reads' HO_500002.out).2.2 | (with_reducible refine Kd.C_alloc ?_ _) | (with_reducible refine Kd.C_drewN ?_ _) | (with_reducible refine Kd.C_drew ?_))); (case side2 => rw [show t517.length = t495.length from (Kd.R_reads' HO_500002.out).1.symm]; exact (Kd.R_reads' HO_500002.out).2.1); rintro e w117 ⟨rfl, hb⟩; refine ⟨_, rfl, ?_⟩; have n0_ := Aside0.mk (Kd.R_below (by (with_reducible repeat (first | apply Kd.R_alloc | apply Kd.R_drewN | apply Kd.R_drew)); exact HO_484002.out) hb); have n1_ := Aside0.mk (Kd.R_below (by (with_reducible repeat (first | apply Kd.R_alloc | apply Kd.R_drewN | apply Kd.R_drew)); exact HO_490002.out) hb); have n2_ := Aside0.mk (Kd.R_below (by (with_reducible repeat (first | apply Kd.R_alloc | apply Kd.R_drewN | apply Kd.R_drew)); exact HO_500002.out) hb); have n3_ := Aside0.mk (blk_below (g := gb467) (o := .cells #[.int .i64 a0_0, .int .i64 a0_1, .slice A0_2 l0_2.length c0_2] 32 (0, 0)) (by (with_reducible repeat (first | refine blk_drewN ?_ _ | refine blk_drew ?_ | refine blk_alloc ?_ _)); exact BK467.out) hb); have n4_ := Aside0.mk (blk_below (g := gb483) (o := .cells #[.int .i64 t477, .int .i64 t478, .slice Ao30 t479.length co30] 24 (0, 0)) (by (with_reducible repeat (first | refine blk_drewN ?_ _ | refine blk_drew ?_ | refine blk_alloc ?_ _)); exact BK483.out) hb); have n5_ := Aside0.mk (blk_below (g := gb489) (o := .cells #[.int .i64 t484, .int .i64 t485, .slice Ao37 t512.length co37] 24 (0, 0)) (by (with_reducible repeat (first | refine blk_drewN ?_ _ | refine blk_drew ?_ | refine blk_alloc ?_ _)); exact BK489.out) hb); have n6_ := Aside0.mk (blk_below (g := gb499) (o := .cells #[.int .i64 t493, .int .i64 t494, .slice Ao47 t495.length co47] 24 (0, 0)) (by (with_reducible repeat (first | refine blk_drewN ?_ _ | refine blk_drew ?_ | refine blk_alloc ?_ _)); exact BK499.out) hb); have n7_ := Aside0.mk (below_step (by repeat (first | (with_reducible first | exact HB.out | apply below_alloc | apply pw_below_drewN | apply below_drew1 | refine below_set ?_ GE467.out | refine below_set ?_ GE483.out | refine below_set ?_ GE489.out | refine below_set ?_ GE499.out) | exact HB.out)) hb); clear HO_484002; clear HO_490002; clear HO_500002; clear BK467; clear BK483; clear BK489; clear BK499; clear HB; have HO_484002 := n0_; have HO_490002 := n1_; have HO_500002 := n2_; have BK467 := n3_; have BK483 := n4_; have BK489 := n5_; have BK499 := n6_; have HB := n7_; clear n0_ n1_ n2_ n3_ n4_ n5_ n6_ n7_; (try clear hb); (try clear hb2); (try clear hk); (try clear hi)))
                        go_ret
                        exact ⟨by first | rfl | (simp [errW_none, errW_some] <;> rfl) | (simp [*, errW_none, errW_some] <;> rfl), by repeat (first | (with_reducible first | exact HB.out | apply below_alloc | apply pw_below_drewN | apply below_drew1 | refine below_set ?_ GE467.out | refine below_set ?_ GE483.out | refine below_set ?_ GE489.out | refine below_set ?_ GE499.out) | exact HB.out)⟩
                      · rw [if_neg c110] at H
                        have c110b0 : decide (t518 < 0) = false := decide_eq_false c110
                        clear c110
                        by_cases c118 : t518 = t516
                        · rw [if_pos c118] at H
                          have c118b0 : (t518 == t516) = true := beq_iff_eq.mpr c118
                          have c118b1 : (t518 != t516) = false := bne_eq_false_iff_eq.mpr c118
                          clear c118
                          replace H := Option.bind_eq_some_iff.mp H
                          obtain ⟨⟨t519, t520, t521⟩, A1190, H⟩ := H
                          replace H : ((laws_toIntS.f kj74 l1).bind fun t524 => ((impl_WithBitsValue.f kj74 t519 t520 t521 t524 a2).bind fun bt527 => ((laws_eqBoard.f kj74 bt527.1 bt527.2.1 bt527.2.2.1 t477 t478 t479).bind fun t534 => (if t534 = true then (lw.j2 kj74 t516 (bt527.2.2.2 != t482) t493 t494 t517) else (lw.j2 kj74 t516 true t493 t494 t517))))) = some r := H
                          have A119 := Aside0.mk A1190
                          clear A1190
                          replace H := Option.bind_eq_some_iff.mp H
                          obtain ⟨t524, A1200, H⟩ := H
                          replace H : ((impl_WithBitsValue.f kj74 t519 t520 t521 t524 a2).bind fun bt527 => ((laws_eqBoard.f kj74 bt527.1 bt527.2.1 bt527.2.2.1 t477 t478 t479).bind fun t534 => (if t534 = true then (lw.j2 kj74 t516 (bt527.2.2.2 != t482) t493 t494 t517) else (lw.j2 kj74 t516 true t493 t494 t517)))) = some r := H
                          have A120 := Aside0.mk A1200
                          clear A1200
                          replace H := Option.bind_eq_some_iff.mp H
                          obtain ⟨⟨t527, t528, t529, t532⟩, A1210, H⟩ := H
                          replace H : ((laws_eqBoard.f kj74 t527 t528 t529 t477 t478 t479).bind fun t534 => (if t534 = true then (lw.j2 kj74 t516 (t532 != t482) t493 t494 t517) else (lw.j2 kj74 t516 true t493 t494 t517))) = some r := H
                          have A121 := Aside0.mk A1210
                          clear A1210
                          have HC122 := Aside0.mk H
                          clear H
                          have hnb123 := NB499_467.out
                          have hnc123 := NB467_499.out
                          have hnb124 := NB499_483.out
                          have hnc124 := NB483_499.out
                          have hnb125 := NB499_489.out
                          have hnc125 := NB489_499.out
                          have hcz126_0 : wc.cell? ⟨gb499, 0, none⟩ = some (.int .i64 t493) := (blk_cell BK499.out 0).trans rfl
                          have hcz126_1 : wc.cell? ⟨gb499, 1, none⟩ = some (.int .i64 t494) := (blk_cell BK499.out 1).trans rfl
                          have hcz126_2 : wc.cell? ⟨gb499, 2, none⟩ = some (.slice Ao47 t495.length co47) := (blk_cell BK499.out 2).trans rfl
                          have hfz126_0 := blk_frozen BK499.out 0
                          have hfz126_1 := blk_frozen BK499.out 1
                          have hfz126_2 := blk_frozen BK499.out 2
                          go_upto_region 31 with (first | ((with_reducible refine gate_callee (f := 16) rfl ?_); refine goesL_ (some 87) rfl rfl Try.func16 (by kernel_rfl) rfl #[.agg #[.int .i64 t493, .int .i64 t494, .slice Ao47 t495.length co47], .int .i64 1] rfl (by (try simp only [List.map_toArray, List.map_cons, List.map_nil]); first | done | rfl | (simp only [List.length_drop, List.length_take]; rfl)) ?_; (with_reducible refine (laws_markBoard.calls kj74 t493 t494 (fun k_ => some k_ = (.slice Ao47 t495.length co47 : Value).ownBlock) (.slice Ao47 t495.length co47) t495 1 t516 t517 w _ ?side1 ?side2 A108.out).mono ?_); (case side1 => repeat (first | (with_reducible first | exact HB.out | apply below_alloc | apply pw_below_drewN | apply below_drew1 | refine below_set ?_ GE467.out | refine below_set ?_ GE483.out | refine below_set ?_ GE489.out | refine below_set ?_ GE499.out) | exact HB.out)); (case side2 => exact Kd.R_tight rfl HO_500002.out); rintro e w127 ⟨rfl, hy0, hb, hkp⟩; refine ⟨_, rfl, ?_⟩; have n0_ := Aside0.mk (Kd.R_mono (ok' := fun k_ => some k_ ≠ (.slice Ao37 t512.length co37 : Value).ownBlock ∧ some k_ ≠ (.slice Ao47 t495.length co47 : Value).ownBlock) (Kd.R_keptB (HO_484002.out) hkp (fun k_ hk_ hs_ => (hk_.2) hs_)) (fun k_ hk_ => ⟨hk_.1.1, hk_.1.2⟩)); have n1_ := Aside0.mk (Kd.R_mono (ok' := fun k_ => some k_ ≠ (.slice Ao30 t479.length co30 : Value).ownBlock ∧ some k_ ≠ (.slice Ao47 t495.length co47 : Value).ownBlock) (Kd.R_keptB (HO_490002.out) hkp (fun k_ hk_ hs_ => (hk_.2) hs_)) (fun k_ hk_ => ⟨hk_.1.1, hk_.1.2⟩)); have n2_ := Aside0.mk (Kd.R_reok rfl hy0 (fun k_ e_ => HO_500002.out.1 k_ e_)); have n3_ := Aside0.mk (blk_kept (by (with_reducible repeat (first | refine blk_drewN ?_ _ | refine blk_drew ?_ | refine blk_alloc ?_ _)); exact BK467.out) hkp (fun hs_ => (fun e_ => (Kd.R_ne HO_500002.out BK467.out (by decide)) e_) hs_)); have n4_ := Aside0.mk (blk_kept (by (with_reducible repeat (first | refine blk_drewN ?_ _ | refine blk_drew ?_ | refine blk_alloc ?_ _)); exact BK483.out) hkp (fun hs_ => (fun e_ => (Kd.R_ne HO_500002.out BK483.out (by decide)) e_) hs_)); have n5_ := Aside0.mk (blk_kept (by (with_reducible repeat (first | refine blk_drewN ?_ _ | refine blk_drew ?_ | refine blk_alloc ?_ _)); exact BK489.out) hkp (fun hs_ => (fun e_ => (Kd.R_ne HO_500002.out BK489.out (by decide)) e_) hs_)); have n6_ := Aside0.mk (blk_kept (by (with_reducible repeat (first | refine blk_drewN ?_ _ | refine blk_drew ?_ | refine blk_alloc ?_ _)); exact BK499.out) hkp (fun hs_ => (fun e_ => (Kd.R_ne HO_500002.out BK499.out (by decide)) e_) hs_)); have n7_ := Aside0.mk (hb); clear HO_484002; clear HO_490002; clear HO_500002; clear BK467; clear BK483; clear BK489; clear BK499; clear HB; have HO_484002 := n0_; have HO_490002 := n1_; have HO_500002 := n2_; have BK467 := n3_; have BK483 := n4_; have BK489 := n5_; have BK499 := n6_; have HB := n7_; clear n0_ n1_ n2_ n3_ n4_ n5_ n6_ n7_; (try clear hb); (try clear hkp); (try clear hy0); have hcz128_0 : w127.cell? ⟨gb499, 0, none⟩ = some (.int .i64 t493) := (blk_cell BK499.out 0).trans rfl; have hcz128_1 : w127.cell? ⟨gb499, 1, none⟩ = some (.int .i64 t494) := (blk_cell BK499.out 1).trans rfl; have hcz128_2 : w127.cell? ⟨gb499, 2, none⟩ = some (.slice Ao47 t495.length co47) := (blk_cell BK499.out 2).trans rfl; have hfz128_0 := blk_frozen BK499.out 0; have hfz128_1 := blk_frozen BK499.out 1; have hfz128_2 := blk_frozen BK499.out 2) | ((with_reducible refine gate_callee (f := 17) rfl ?_); refine goesL_ (some 90) rfl rfl Try.func17 (by kernel_rfl) rfl #[.agg #[.int .i64 t493, .int .i64 t494, .slice Ao47 t517.length co47], .int .i64 1] rfl (by (try simp only [List.map_toArray, List.map_cons, List.map_nil]); first | done | (rw [show t517.length = t495.length from (Kd.R_reads' HO_500002.out).1.symm] <;> rfl) | rfl | (simp only [List.length_drop, List.length_take]; rfl)) ?_; (with_reducible refine (laws_heldBoard.calls kj74 t493 t494 _ _ t517 1 t518 _ ?side1 ?side2 A109.out).mono ?_); (case side1 => repeat (first | exact (Kd.R_reads' HO_500002.out).2.2 | (with_reducible refine Kd.C_alloc ?_ _) | (with_reducible refine Kd.C_drewN ?_ _) | (with_reducible refine Kd.C_drew ?_))); (case side2 => rw [show t517.length = t495.length from (Kd.R_reads' HO_500002.out).1.symm]; exact (Kd.R_reads' HO_500002.out).2.1); rintro e w129 ⟨rfl, hb⟩; refine ⟨_, rfl, ?_⟩; have n0_ := Aside0.mk (Kd.R_below (by (with_reducible repeat (first | apply Kd.R_alloc | apply Kd.R_drewN | apply Kd.R_drew)); exact HO_484002.out) hb); have n1_ := Aside0.mk (Kd.R_below (by (with_reducible repeat (first | apply Kd.R_alloc | apply Kd.R_drewN | apply Kd.R_drew)); exact HO_490002.out) hb); have n2_ := Aside0.mk (Kd.R_below (by (with_reducible repeat (first | apply Kd.R_alloc | apply Kd.R_drewN | apply Kd.R_drew)); exact HO_500002.out) hb); have n3_ := Aside0.mk (blk_below (g := gb467) (o := .cells #[.int .i64 a0_0, .int .i64 a0_1, .slice A0_2 l0_2.length c0_2] 32 (0, 0)) (by (with_reducible repeat (first | refine blk_drewN ?_ _ | refine blk_drew ?_ | refine blk_alloc ?_ _)); exact BK467.out) hb); have n4_ := Aside0.mk (blk_below (g := gb483) (o := .cells #[.int .i64 t477, .int .i64 t478, .slice Ao30 t479.length co30] 24 (0, 0)) (by (with_reducible repeat (first | refine blk_drewN ?_ _ | refine blk_drew ?_ | refine blk_alloc ?_ _)); exact BK483.out) hb); have n5_ := Aside0.mk (blk_below (g := gb489) (o := .cells #[.int .i64 t484, .int .i64 t485, .slice Ao37 t512.length co37] 24 (0, 0)) (by (with_reducible repeat (first | refine blk_drewN ?_ _ | refine blk_drew ?_ | refine blk_alloc ?_ _)); exact BK489.out) hb); have n6_ := Aside0.mk (blk_below (g := gb499) (o := .cells #[.int .i64 t493, .int .i64 t494, .slice Ao47 t495.length co47] 24 (0, 0)) (by (with_reducible repeat (first | refine blk_drewN ?_ _ | refine blk_drew ?_ | refine blk_alloc ?_ _)); exact BK499.out) hb); have n7_ := Aside0.mk (below_step (by repeat (first | (with_reducible first | exact HB.out | apply below_alloc | apply pw_below_drewN | apply below_drew1 | refine below_set ?_ GE467.out | refine below_set ?_ GE483.out | refine below_set ?_ GE489.out | refine below_set ?_ GE499.out) | exact HB.out)) hb); clear HO_484002; clear HO_490002; clear HO_500002; clear BK467; clear BK483; clear BK489; clear BK499; clear HB; have HO_484002 := n0_; have HO_490002 := n1_; have HO_500002 := n2_; have BK467 := n3_; have BK483 := n4_; have BK489 := n5_; have BK499 := n6_; have HB := n7_; clear n0_ n1_ n2_ n3_ n4_ n5_ n6_ n7_; (try clear hb); (try clear hb2); (try clear hk); (try clear hi); have hnb130 := NB467_483.out; have hnc130 := NB483_467.out; have hnb131 := NB467_489.out; have hnc131 := NB489_467.out; have hcz132_0 : w129.cell? ⟨gb467, 0, none⟩ = some (.int .i64 a0_0) := (blk_cell BK467.out 0).trans rfl; have hcz132_1 : w129.cell? ⟨gb467, 1, none⟩ = some (.int .i64 a0_1) := (blk_cell BK467.out 1).trans rfl; have hcz132_2 : w129.cell? ⟨gb467, 2, none⟩ = some (.slice A0_2 l0_2.length c0_2) := (blk_cell BK467.out 2).trans rfl; have hfz132_0 := blk_frozen BK467.out 0; have hfz132_1 := blk_frozen BK467.out 1; have hfz132_2 := blk_frozen BK467.out 2) | ((with_reducible refine gate_callee (f := 20) rfl ?_); refine goesL_ (some 98) rfl rfl Try.func20 (by kernel_rfl) rfl #[.agg #[.int .i64 a0_0, .int .i64 a0_1, .slice A0_2 l0_2.length c0_2]] rfl (by (try simp only [List.map_toArray, List.map_cons, List.map_nil]); first | done | rfl | (simp only [List.length_drop, List.length_take]; rfl)) ?_; (with_reducible refine (laws_toBoard.calls kj74 a0_0 a0_1 _ _ l0_2 t519 t520 t521 _ ?side1 ?side2 A119.out).mono ?_); (case side1 => repeat (first | exact (Kd.C_below HR0_2.out HB.out) | (with_reducible refine Kd.C_alloc ?_ _) | (with_reducible refine Kd.C_drewN ?_ _) | (with_reducible refine Kd.C_drew ?_))); (case side2 => exact HC0_2.out); rintro e w133 ⟨v522, rfl, ho0, hb⟩; refine ⟨_, rfl, ?_⟩; have n0_ := Aside0.mk (Kd.R_elder' (by (with_reducible repeat (first | apply Kd.R_alloc | apply Kd.R_drewN | apply Kd.R_drew)); exact HO_484002.out) (Kd.R_base ho0) hb); have n1_ := Aside0.mk (Kd.R_elder' (by (with_reducible repeat (first | apply Kd.R_alloc | apply Kd.R_drewN | apply Kd.R_drew)); exact HO_490002.out) (Kd.R_base ho0) hb); have n2_ := Aside0.mk (Kd.R_elder' (by (with_reducible repeat (first | apply Kd.R_alloc | apply Kd.R_drewN | apply Kd.R_drew)); exact HO_500002.out) (Kd.R_base ho0) hb); have n3_ := Aside0.mk (Kd.R_lower (Kd.R_new' (Kd.R_new' (Kd.R_new' ho0 (Kd.R_lt (by (with_reducible repeat (first | apply Kd.R_alloc | apply Kd.R_drewN | apply Kd.R_drew)); exact HO_484002.out))) (Kd.R_lt (by (with_reducible repeat (first | apply Kd.R_alloc | apply Kd.R_drewN | apply Kd.R_drew)); exact HO_490002.out))) (Kd.R_lt (by (with_reducible repeat (first | apply Kd.R_alloc | apply Kd.R_drewN | apply Kd.R_drew)); exact HO_500002.out))) (below_size (by repeat (first | (with_reducible first | exact HB.out | apply below_alloc | apply pw_below_drewN | apply below_drew1 | refine below_set ?_ GE467.out | refine below_set ?_ GE483.out | refine below_set ?_ GE489.out | refine below_set ?_ GE499.out) | exact HB.out)))); have n4_ := Aside0.mk (blk_below (g := gb467) (o := .cells #[.int .i64 a0_0, .int .i64 a0_1, .slice A0_2 l0_2.length c0_2] 32 (0, 0)) (by (with_reducible repeat (first | refine blk_drewN ?_ _ | refine blk_drew ?_ | refine blk_alloc ?_ _)); exact BK467.out) hb); have n5_ := Aside0.mk (blk_below (g := gb483) (o := .cells #[.int .i64 t477, .int .i64 t478, .slice Ao30 t479.length co30] 24 (0, 0)) (by (with_reducible repeat (first | refine blk_drewN ?_ _ | refine blk_drew ?_ | refine blk_alloc ?_ _)); exact BK483.out) hb); have n6_ := Aside0.mk (blk_below (g := gb489) (o := .cells #[.int .i64 t484, .int .i64 t485, .slice Ao37 t512.length co37] 24 (0, 0)) (by (with_reducible repeat (first | refine blk_drewN ?_ _ | refine blk_drew ?_ | refine blk_alloc ?_ _)); exact BK489.out) hb); have n7_ := Aside0.mk (blk_below (g := gb499) (o := .cells #[.int .i64 t493, .int .i64 t494, .slice Ao47 t495.length co47] 24 (0, 0)) (by (with_reducible repeat (first | refine blk_drewN ?_ _ | refine blk_drew ?_ | refine blk_alloc ?_ _)); exact BK499.out) hb); have n8_ := Aside0.mk (below_step (by repeat (first | (with_reducible first | exact HB.out | apply below_alloc | apply pw_below_drewN | apply below_drew1 | refine below_set ?_ GE467.out | refine below_set ?_ GE483.out | refine below_set ?_ GE489.out | refine below_set ?_ GE499.out) | exact HB.out)) hb); clear HO_484002; clear HO_490002; clear HO_500002; clear BK467; clear BK483; clear BK489; clear BK499; clear HB; have HO_484002 := n0_; have HO_490002 := n1_; have HO_500002 := n2_; have HO523 := n3_; have BK467 := n4_; have BK483 := n5_; have BK489 := n6_; have BK499 := n7_; have HB := n8_; clear n0_ n1_ n2_ n3_ n4_ n5_ n6_ n7_ n8_; (try clear hb); (try clear hb2); (try clear hk); (try clear hi); (try clear ho0)) | ((with_reducible refine gate_callee (f := 25) rfl ?_); refine goesL_ (some 100) rfl rfl Try.func25 (by kernel_rfl) rfl #[.slice A1 l1.length c1] rfl (by (try simp only [List.map_toArray, List.map_cons, List.map_nil]); first | done | rfl | (simp only [List.length_drop, List.length_take]; rfl)) ?_; (with_reducible refine (laws_toIntS.calls kj74 _ _ l1 t524 _ ?side1 ?side2 A120.out).mono ?_); (case side1 => repeat (first | exact (Kd.C_below HR1.out HB.out) | (with_reducible refine Kd.C_alloc ?_ _) | (with_reducible refine Kd.C_drewN ?_ _) | (with_reducible refine Kd.C_drew ?_))); (case side2 => exact HC1.out); rintro e w134 ⟨v525, rfl, ho0, hb⟩; refine ⟨_, rfl, ?_⟩; have n0_ := Aside0.mk (Kd.R_below (by (with_reducible repeat (first | apply Kd.R_alloc | apply Kd.R_drewN | apply Kd.R_drew)); exact HO_484002.out) hb); have n1_ := Aside0.mk (Kd.R_below (by (with_reducible repeat (first | apply Kd.R_alloc | apply Kd.R_drewN | apply Kd.R_drew)); exact HO_490002.out) hb); have n2_ := Aside0.mk (Kd.R_below (by (with_reducible repeat (first | apply Kd.R_alloc | apply Kd.R_drewN | apply Kd.R_drew)); exact HO_500002.out) hb); have n3_ := Aside0.mk (Kd.R_below (by (with_reducible repeat (first | apply Kd.R_alloc | apply Kd.R_drewN | apply Kd.R_drew)); exact HO523.out) hb); have n4_ := Aside0.mk (Kd.R_lower ho0 (below_size (by repeat (first | (with_reducible first | exact HB.out | apply below_alloc | apply pw_below_drewN | apply below_drew1 | refine below_set ?_ GE467.out | refine below_set ?_ GE483.out | refine below_set ?_ GE489.out | refine below_set ?_ GE499.out) | exact HB.out)))); have n5_ := Aside0.mk (blk_below (g := gb467) (o := .cells #[.int .i64 a0_0, .int .i64 a0_1, .slice A0_2 l0_2.length c0_2] 32 (0, 0)) (by (with_reducible repeat (first | refine blk_drewN ?_ _ | refine blk_drew ?_ | refine blk_alloc ?_ _)); exact BK467.out) hb); have n6_ := Aside0.mk (blk_below (g := gb483) (o := .cells #[.int .i64 t477, .int .i64 t478, .slice Ao30 t479.length co30] 24 (0, 0)) (by (with_reducible repeat (first | refine blk_drewN ?_ _ | refine blk_drew ?_ | refine blk_alloc ?_ _)); exact BK483.out) hb); have n7_ := Aside0.mk (blk_below (g := gb489) (o := .cells #[.int .i64 t484, .int .i64 t485, .slice Ao37 t512.length co37] 24 (0, 0)) (by (with_reducible repeat (first | refine blk_drewN ?_ _ | refine blk_drew ?_ | refine blk_alloc ?_ _)); exact BK489.out) hb); have n8_ := Aside0.mk (blk_below (g := gb499) (o := .cells #[.int .i64 t493, .int .i64 t494, .slice Ao47 t495.length co47] 24 (0, 0)) (by (with_reducible repeat (first | refine blk_drewN ?_ _ | refine blk_drew ?_ | refine blk_alloc ?_ _)); exact BK499.out) hb); have n9_ := Aside0.mk (below_step (by repeat (first | (with_reducible first | exact HB.out | apply below_alloc | apply pw_below_drewN | apply below_drew1 | refine below_set ?_ GE467.out | refine below_set ?_ GE483.out | refine below_set ?_ GE489.out | refine below_set ?_ GE499.out) | exact HB.out)) hb); clear HO_484002; clear HO_490002; clear HO_500002; clear HO523; clear BK467; clear BK483; clear BK489; clear BK499; clear HB; have HO_484002 := n0_; have HO_490002 := n1_; have HO_500002 := n2_; have HO523 := n3_; have HO526 := n4_; have BK467 := n5_; have BK483 := n6_; have BK489 := n7_; have BK499 := n8_; have HB := n9_; clear n0_ n1_ n2_ n3_ n4_ n5_ n6_ n7_ n8_ n9_; (try clear hb); (try clear hb2); (try clear hk); (try clear hi); (try clear ho0); obtain ⟨Ao135, co135, eo135⟩ := Kd.R_slice HO523.out; subst eo135; obtain ⟨Ao136, co136, eo136⟩ := Kd.R_slice HO526.out; subst eo136) | ((with_reducible refine gate_callee (f := 29) rfl ?_); refine goesL_ (some 102) rfl rfl Try.func29 (by kernel_rfl) rfl #[.agg #[.int .i64 t519, .int .i64 t520, .slice Ao135 t521.length co135], .slice Ao136 t524.length co136, .int .i64 a2] rfl (by (try simp only [List.map_toArray, List.map_cons, List.map_nil]); first | done | rfl | (simp only [List.length_drop, List.length_take]; rfl)) ?_; (with_reducible refine (impl_WithBitsValue.calls kj74 t519 t520 _ _ t521 _ _ t524 a2 t527 t528 t529 t532 _ ?side1 ?side2 ?side3 ?side4 A121.out).mono ?_); (case side1 => repeat (first | exact (Kd.R_reads' HO523.out).2.2 | (with_reducible refine Kd.C_alloc ?_ _) | (with_reducible refine Kd.C_drewN ?_ _) | (with_reducible refine Kd.C_drew ?_))); (case side2 => exact (Kd.R_reads' HO523.out).2.1); (case side3 => repeat (first | exact (Kd.R_reads' HO526.out).2.2 | (with_reducible refine Kd.C_alloc ?_ _) | (with_reducible refine Kd.C_drewN ?_ _) | (with_reducible refine Kd.C_drew ?_))); (case side4 => exact (Kd.R_reads' HO526.out).2.1); rintro e w137 ⟨v530, rfl, ho0, hb⟩; refine ⟨_, rfl, ?_⟩; have n0_ := Aside0.mk (Kd.R_elder' (by (with_reducible repeat (first | apply Kd.R_alloc | apply Kd.R_drewN | apply Kd.R_drew)); exact HO_484002.out) (Kd.R_base ho0) hb); have n1_ := Aside0.mk (Kd.R_elder' (by (with_reducible repeat (first | apply Kd.R_alloc | apply Kd.R_drewN | apply Kd.R_drew)); exact HO_490002.out) (Kd.R_base ho0) hb); have n2_ := Aside0.mk (Kd.R_elder' (by (with_reducible repeat (first | apply Kd.R_alloc | apply Kd.R_drewN | apply Kd.R_drew)); exact HO_500002.out) (Kd.R_base ho0) hb); have n3_ := Aside0.mk (Kd.R_elder' (by (with_reducible repeat (first | apply Kd.R_alloc | apply Kd.R_drewN | apply Kd.R_drew)); exact HO523.out) (Kd.R_base ho0) hb); have n4_ := Aside0.mk (Kd.R_below (by (with_reducible repeat (first | apply Kd.R_alloc | apply Kd.R_drewN | apply Kd.R_drew)); exact HO526.out) hb); have n5_ := Aside0.mk (Kd.R_lower (Kd.R_new' (Kd.R_new' (Kd.R_new' (Kd.R_new' ho0 (Kd.R_lt (by (with_reducible repeat (first | apply Kd.R_alloc | apply Kd.R_drewN | apply Kd.R_drew)); exact HO_484002.out))) (Kd.R_lt (by (with_reducible repeat (first | apply Kd.R_alloc | apply Kd.R_drewN | apply Kd.R_drew)); exact HO_490002.out))) (Kd.R_lt (by (with_reducible repeat (first | apply Kd.R_alloc | apply Kd.R_drewN | apply Kd.R_drew)); exact HO_500002.out))) (Kd.R_lt (by (with_reducible repeat (first | apply Kd.R_alloc | apply Kd.R_drewN | apply Kd.R_drew)); exact HO523.out))) (below_size (by repeat (first | (with_reducible first | exact HB.out | apply below_alloc | apply pw_below_drewN | apply below_drew1 | refine below_set ?_ GE467.out | refine below_set ?_ GE483.out | refine below_set ?_ GE489.out | refine below_set ?_ GE499.out) | exact HB.out)))); have n6_ := Aside0.mk (blk_below (g := gb467) (o := .cells #[.int .i64 a0_0, .int .i64 a0_1, .slice A0_2 l0_2.length c0_2] 32 (0, 0)) (by (with_reducible repeat (first | refine blk_drewN ?_ _ | refine blk_drew ?_ | refine blk_alloc ?_ _)); exact BK467.out) hb); have n7_ := Aside0.mk (blk_below (g := gb483) (o := .cells #[.int .i64 t477, .int .i64 t478, .slice Ao30 t479.length co30] 24 (0, 0)) (by (with_reducible repeat (first | refine blk_drewN ?_ _ | refine blk_drew ?_ | refine blk_alloc ?_ _)); exact BK483.out) hb); have n8_ := Aside0.mk (blk_below (g := gb489) (o := .cells #[.int .i64 t484, .int .i64 t485, .slice Ao37 t512.length co37] 24 (0, 0)) (by (with_reducible repeat (first | refine blk_drewN ?_ _ | refine blk_drew ?_ | refine blk_alloc ?_ _)); exact BK489.out) hb); have n9_ := Aside0.mk (blk_below (g := gb499) (o := .cells #[.int .i64 t493, .int .i64 t494, .slice Ao47 t495.length co47] 24 (0, 0)) (by (with_reducible repeat (first | refine blk_drewN ?_ _ | refine blk_drew ?_ | refine blk_alloc ?_ _)); exact BK499.out) hb); have n10_ := Aside0.mk (below_step (by repeat (first | (with_reducible first | exact HB.out | apply below_alloc | apply pw_below_drewN | apply below_drew1 | refine below_set ?_ GE467.out | refine below_set ?_ GE483.out | refine below_set ?_ GE489.out | refine below_set ?_ GE499.out) | exact HB.out)) hb); clear HO_484002; clear HO_490002; clear HO_500002; clear HO523; clear HO526; clear BK467; clear BK483; clear BK489; clear BK499; clear HB; have HO_484002 := n0_; have HO_490002 := n1_; have HO_500002 := n2_; have HO523 := n3_; have HO526 := n4_; have HO531 := n5_; have BK467 := n6_; have BK483 := n7_; have BK489 := n8_; have BK499 := n9_; have HB := n10_; clear n0_ n1_ n2_ n3_ n4_ n5_ n6_ n7_ n8_ n9_ n10_; (try clear hb); (try clear hb2); (try clear hk); (try clear hi); (try clear ho0)) | ((with_reducible refine gate_dst (N := 17) rfl ?_); refine box_event ?hg (N := 17) ?hd (cs := #[.int .i64 0, .int .i64 0, .slice none 0 0]) (t := 24) ?hr ?_; (case hd => rfl); (case hg => rfl); (case hr => first | (go_simp; done) | (go_simp; rfl)); intro gb533 hg w138 hbox hb; have n0_ := Aside0.mk (Kd.R_below (by (with_reducible repeat (first | apply Kd.R_alloc | apply Kd.R_drewN | apply Kd.R_drew)); exact HO_484002.out) hb); have n1_ := Aside0.mk (Kd.R_below (by (with_reducible repeat (first | apply Kd.R_alloc | apply Kd.R_drewN | apply Kd.R_drew)); exact HO_490002.out) hb); have n2_ := Aside0.mk (Kd.R_below (by (with_reducible repeat (first | apply Kd.R_alloc | apply Kd.R_drewN | apply Kd.R_drew)); exact HO_500002.out) hb); have n3_ := Aside0.mk (Kd.R_below (by (with_reducible repeat (first | apply Kd.R_alloc | apply Kd.R_drewN | apply Kd.R_drew)); exact HO523.out) hb); have n4_ := Aside0.mk (Kd.R_below (by (with_reducible repeat (first | apply Kd.R_alloc | apply Kd.R_drewN | apply Kd.R_drew)); exact HO526.out) hb); have n5_ := Aside0.mk (Kd.R_below (by (with_reducible repeat (first | apply Kd.R_alloc | apply Kd.R_drewN | apply Kd.R_drew)); exact HO531.out) hb); have n6_ := Aside0.mk (blk_below (g := gb467) (o := .cells #[.int .i64 a0_0, .int .i64 a0_1, .slice A0_2 l0_2.length c0_2] 32 (0, 0)) (by (with_reducible repeat (first | refine blk_drewN ?_ _ | refine blk_drew ?_ | refine blk_alloc ?_ _)); exact BK467.out) hb); have n7_ := Aside0.mk (blk_below (g := gb483) (o := .cells #[.int .i64 t477, .int .i64 t478, .slice Ao30 t479.length co30] 24 (0, 0)) (by (with_reducible repeat (first | refine blk_drewN ?_ _ | refine blk_drew ?_ | refine blk_alloc ?_ _)); exact BK483.out) hb); have n8_ := Aside0.mk (blk_below (g := gb489) (o := .cells #[.int .i64 t484, .int .i64 t485, .slice Ao37 t512.length co37] 24 (0, 0)) (by (with_reducible repeat (first | refine blk_drewN ?_ _ | refine blk_drew ?_ | refine blk_alloc ?_ _)); exact BK489.out) hb); have n9_ := Aside0.mk (blk_below (g := gb499) (o := .cells #[.int .i64 t493, .int .i64 t494, .slice Ao47 t495.length co47] 24 (0, 0)) (by (with_reducible repeat (first | refine blk_drewN ?_ _ | refine blk_drew ?_ | refine blk_alloc ?_ _)); exact BK499.out) hb); have n10_ := Aside0.mk (below_step (by repeat (first | (with_reducible first | exact HB.out | apply below_alloc | apply pw_below_drewN | apply below_drew1 | refine below_set ?_ GE467.out | refine below_set ?_ GE483.out | refine below_set ?_ GE489.out | refine below_set ?_ GE499.out) | exact HB.out)) hb); have n11_ := Aside0.mk (hbox); have n12_ := Aside0.mk ((by rw [hg]; exact (below_size (by repeat (first | (with_reducible first | exact HB.out | apply below_alloc | apply pw_below_drewN | apply below_drew1 | refine below_set ?_ GE467.out | refine below_set ?_ GE483.out | refine below_set ?_ GE489.out | refine below_set ?_ GE499.out) | exact HB.out))) : w.heap.size ≤ gb533)); have n13_ := Aside0.mk ((by rw [hg]; exact (below_size (by repeat (first | (with_reducible first | exact HB.out | apply below_alloc | apply pw_below_drewN | apply below_drew1 | refine below_set ?_ GE467.out | refine below_set ?_ GE483.out | refine below_set ?_ GE489.out | refine below_set ?_ GE499.out) | exact HB.out))) : w.heap.size ≤ gb533)); have n14_ := Aside0.mk ((by rw [hg]; exact Nat.ne_of_lt (blk_lt (g := gb467) (o := .cells #[.int .i64 a0_0, .int .i64 a0_1, .slice A0_2 l0_2.length c0_2] 32 (0, 0)) (by (with_reducible repeat (first | refine blk_drewN ?_ _ | refine blk_drew ?_ | refine blk_alloc ?_ _)); exact BK467.out)) : gb467 ≠ gb533)); have n15_ := Aside0.mk ((by rw [hg]; exact Nat.ne_of_gt (blk_lt (g := gb467) (o := .cells #[.int .i64 a0_0, .int .i64 a0_1, .slice A0_2 l0_2.length c0_2] 32 (0, 0)) (by (with_reducible repeat (first | refine blk_drewN ?_ _ | refine blk_drew ?_ | refine blk_alloc ?_ _)); exact BK467.out)) : gb533 ≠ gb467)); have n16_ := Aside0.mk ((by rw [hg]; exact Nat.ne_of_lt (blk_lt (g := gb483) (o := .cells #[.int .i64 t477, .int .i64 t478, .slice Ao30 t479.length co30] 24 (0, 0)) (by (with_reducible repeat (first | refine blk_drewN ?_ _ | refine blk_drew ?_ | refine blk_alloc ?_ _)); exact BK483.out)) : gb483 ≠ gb533)); have n17_ := Aside0.mk ((by rw [hg]; exact Nat.ne_of_gt (blk_lt (g := gb483) (o := .cells #[.int .i64 t477, .int .i64 t478, .slice Ao30 t479.length co30] 24 (0, 0)) (by (with_reducible repeat (first | refine blk_drewN ?_ _ | refine blk_drew ?_ | refine blk_alloc ?_ _)); exact BK483.out)) : gb533 ≠ gb483)); have n18_ := Aside0.mk ((by rw [hg]; exact Nat.ne_of_lt (blk_lt (g := gb489) (o := .cells #[.int .i64 t484, .int .i64 t485, .slice Ao37 t512.length co37] 24 (0, 0)) (by (with_reducible repeat (first | refine blk_drewN ?_ _ | refine blk_drew ?_ | refine blk_alloc ?_ _)); exact BK489.out)) : gb489 ≠ gb533)); have n19_ := Aside0.mk ((by rw [hg]; exact Nat.ne_of_gt (blk_lt (g := gb489) (o := .cells #[.int .i64 t484, .int .i64 t485, .slice Ao37 t512.length co37] 24 (0, 0)) (by (with_reducible repeat (first | refine blk_drewN ?_ _ | refine blk_drew ?_ | refine blk_alloc ?_ _)); exact BK489.out)) : gb533 ≠ gb489)); have n20_ := Aside0.mk ((by rw [hg]; exact Nat.ne_of_lt (blk_lt (g := gb499) (o := .cells #[.int .i64 t493, .int .i64 t494, .slice Ao47 t495.length co47] 24 (0, 0)) (by (with_reducible repeat (first | refine blk_drewN ?_ _ | refine blk_drew ?_ | refine blk_alloc ?_ _)); exact BK499.out)) : gb499 ≠ gb533)); have n21_ := Aside0.mk ((by rw [hg]; exact Nat.ne_of_gt (blk_lt (g := gb499) (o := .cells #[.int .i64 t493, .int .i64 t494, .slice Ao47 t495.length co47] 24 (0, 0)) (by (with_reducible repeat (first | refine blk_drewN ?_ _ | refine blk_drew ?_ | refine blk_alloc ?_ _)); exact BK499.out)) : gb533 ≠ gb499)); clear HO_484002; clear HO_490002; clear HO_500002; clear HO523; clear HO526; clear HO531; clear BK467; clear BK483; clear BK489; clear BK499; clear HB; have HO_484002 := n0_; have HO_490002 := n1_; have HO_500002 := n2_; have HO523 := n3_; have HO526 := n4_; have HO531 := n5_; have BK467 := n6_; have BK483 := n7_; have BK489 := n8_; have BK499 := n9_; have HB := n10_; have BK533 := n11_; have GW533 := n12_; have GE533 := n13_; have NB467_533 := n14_; have NB533_467 := n15_; have NB483_533 := n16_; have NB533_483 := n17_; have NB489_533 := n18_; have NB533_489 := n19_; have NB499_533 := n20_; have NB533_499 := n21_; clear n0_ n1_ n2_ n3_ n4_ n5_ n6_ n7_ n8_ n9_ n10_ n11_ n12_ n13_ n14_ n15_ n16_ n17_ n18_ n19_ n20_ n21_; clear hb hbox hg; have hnb139 := NB533_467.out; have hnc139 := NB467_533.out; have hnb140 := NB533_483.out; have hnc140 := NB483_533.out; have hnb141 := NB533_489.out; have hnc141 := NB489_533.out; have hnb142 := NB533_499.out; have hnc142 := NB499_533.out; have hcz143_0 : w138.cell? ⟨gb533, 0, none⟩ = some (.int .i64 0) := (blk_cell BK533.out 0).trans rfl; have hcz143_1 : w138.cell? ⟨gb533, 1, none⟩ = some (.int .i64 0) := (blk_cell BK533.out 1).trans rfl; have hcz143_2 : w138.cell? ⟨gb533, 2, none⟩ = some (.slice none 0 0) := (blk_cell BK533.out 2).trans rfl; have hfz143_0 := blk_frozen BK533.out 0; have hfz143_1 := blk_frozen BK533.out 1; have hfz143_2 := blk_frozen BK533.out 2; obtain ⟨Ao144, co144, eo144⟩ := Kd.R_slice HO531.out; subst eo144))
                          (try simp only [Act.put, List.setIfInBounds_toArray, List.set_cons_zero, List.set_cons_succ])
                          go_cut [113] (fun v113 wc => ∃ (kq : Nat) (x113_121 : Bool), v113 = .bool x113_121 ∧ Aside0 (lw.j2 kq t516 x113_121 t493 t494 t517 = some r) ∧ Aside0 (kq ≤ kj74) ∧ Aside0 (Kd.R k71 71 wc w.heap.size (fun k_ => some k_ ≠ ((.slice Ao37 t512.length co37) : Value).ownBlock ∧ some k_ ≠ ((.slice Ao47 t495.length co47) : Value).ownBlock ∧ some k_ ≠ ((.slice Ao144 t529.length co144) : Value).ownBlock) (.slice Ao30 t479.length co30) t479) ∧ Aside0 (Kd.R k71 71 wc w.heap.size (fun k_ => some k_ ≠ ((.slice Ao30 t479.length co30) : Value).ownBlock ∧ some k_ ≠ ((.slice Ao47 t495.length co47) : Value).ownBlock ∧ some k_ ≠ ((.slice Ao144 t529.length co144) : Value).ownBlock) (.slice Ao37 t512.length co37) t512) ∧ Aside0 (Kd.R k71 71 wc w.heap.size (fun k_ => some k_ ≠ ((.slice Ao30 t479.length co30) : Value).ownBlock ∧ some k_ ≠ ((.slice Ao37 t512.length co37) : Value).ownBlock ∧ some k_ ≠ ((.slice Ao144 t529.length co144) : Value).ownBlock) (.slice Ao47 t495.length co47) t517) ∧ Aside0 (Kd.R k71 71 wc w.heap.size (fun k_ => some k_ ≠ ((.slice Ao30 t479.length co30) : Value).ownBlock ∧ some k_ ≠ ((.slice Ao37 t512.length co37) : Value).ownBlock ∧ some k_ ≠ ((.slice Ao47 t495.length co47) : Value).ownBlock) (.slice Ao144 t529.length co144) t529) ∧ Aside0 (wc.heap[gb467]? = some (.cells #[.int .i64 a0_0, .int .i64 a0_1, (.slice A0_2 l0_2.length c0_2)] 32 (0, 0))) ∧ Aside0 (wc.heap[gb483]? = some (.cells #[.int .i64 t477, .int .i64 t478, (.slice Ao30 t479.length co30)] 24 (0, 0))) ∧ Aside0 (wc.heap[gb489]? = some (.cells #[.int .i64 t484, .int .i64 t485, (.slice Ao37 t512.length co37)] 24 (0, 0))) ∧ Aside0 (wc.heap[gb499]? = some (.cells #[.int .i64 t493, .int .i64 t494, (.slice Ao47 t495.length co47)] 24 (0, 0))) ∧ Aside0 (wc.heap[gb533]? = some (.cells #[.int .i64 t527, .int .i64 t528, (.slice Ao144 t529.length co144)] 24 (0, 0))) ∧ Aside0 (Below w.heap.size w wc))
                          case first =>
                            have H := HC122.out
                            clear HC122
                            replace H := Option.bind_eq_some_iff.mp H
                            obtain ⟨t534, A1450, H⟩ := H
                            replace H : (if t534 = true then (lw.j2 kj74 t516 (t532 != t482) t493 t494 t517) else (lw.j2 kj74 t516 true t493 t494 t517)) = some r := H
                            have A145 := Aside0.mk A1450
                            clear A1450
                            by_cases c146 : t534 = true
                            · subst c146
                              have H1 : (lw.j2 kj74 t516 (t532 != t482) t493 t494 t517) = some r := by rw [if_pos rfl] at H; exact H
                              clear H
                              have H := H1
                              clear H1
                              have H' := Aside0.mk H
                              clear H
                              have hnb147 := NB533_467.out
                              have hnc147 := NB467_533.out
                              have hnb148 := NB533_483.out
                              have hnc148 := NB483_533.out
                              have hnb149 := NB533_489.out
                              have hnc149 := NB489_533.out
                              have hnb150 := NB533_499.out
                              have hnc150 := NB499_533.out
                              have hcz151_0 : w138.cell? ⟨gb533, 0, none⟩ = some (.int .i64 0) := (blk_cell BK533.out 0).trans rfl
                              have hcz151_1 : w138.cell? ⟨gb533, 1, none⟩ = some (.int .i64 0) := (blk_cell BK533.out 1).trans rfl
                              have hcz151_2 : w138.cell? ⟨gb533, 2, none⟩ = some (.slice none 0 0) := (blk_cell BK533.out 2).trans rfl
                              have hfz151_0 := blk_frozen BK533.out 0
                              have hfz151_1 := blk_frozen BK533.out 1
                              have hfz151_2 := blk_frozen BK533.out 2
                              have hnb152 := NB483_467.out
                              have hnc152 := NB467_483.out
                              have hnb153 := NB483_489.out
                              have hnc153 := NB489_483.out
                              have hnb154 := NB483_499.out
                              have hnc154 := NB499_483.out
                              have hcz155_0 : w138.cell? ⟨gb483, 0, none⟩ = some (.int .i64 t477) := (blk_cell BK483.out 0).trans rfl
                              have hcz155_1 : w138.cell? ⟨gb483, 1, none⟩ = some (.int .i64 t478) := (blk_cell BK483.out 1).trans rfl
                              have hcz155_2 : w138.cell? ⟨gb483, 2, none⟩ = some (.slice Ao30 t479.length co30) := (blk_cell BK483.out 2).trans rfl
                              have hfz155_0 := blk_frozen BK483.out 0
                              have hfz155_1 := blk_frozen BK483.out 1
                              have hfz155_2 := blk_frozen BK483.out 2
                              go_wp2_with (first | ((with_reducible refine gate_callee (f := 15) rfl ?_); refine goesL_ (some 107) rfl rfl Try.func15 (by kernel_rfl) rfl #[.agg #[.int .i64 t527, .int .i64 t528, .slice Ao144 t529.length co144], .agg #[.int .i64 t477, .int .i64 t478, .slice Ao30 t479.length co30]] rfl (by (try simp only [List.map_toArray, List.map_cons, List.map_nil]); first | done | rfl | (simp only [List.length_drop, List.length_take]; rfl)) ?_; (with_reducible refine (laws_eqBoard.calls kj74 t527 t528 _ _ t529 t477 t478 _ _ t479 true _ ?side1 ?side2 ?side3 ?side4 A145.out).mono ?_); (case side1 => refine (Kd.R_reads' (e := 71) (base := w.heap.size) (ok := fun k_ => ((((True ∧ some k_ ≠ (.slice Ao30 t479.length co30 : Value).ownBlock) ∧ some k_ ≠ (.slice Ao37 t512.length co37 : Value).ownBlock) ∧ some k_ ≠ (.slice Ao47 t495.length co47 : Value).ownBlock) ∧ some k_ ≠ (.slice Ao135 t521.length co135 : Value).ownBlock)) (n := t529.length) (c := co144) ?_).2.2; exact (by (with_reducible repeat (first | apply Kd.R_alloc | apply Kd.R_drewN | apply Kd.R_drew)); exact (Kd.R_mono (Kd.R_far (p := ⟨gb533, 2, none⟩) (Kd.R_far (p := ⟨gb533, 1, none⟩) (Kd.R_far (p := ⟨gb533, 0, none⟩) (Kd.R_types HO531.out BK533.out (by decide)) (fun _ hk => hk.2) (.int .i64 t527)) (fun _ hk => hk.2) (.int .i64 t528)) (fun _ hk => hk.2) (.slice Ao144 t529.length co144)) (fun _ h_ => h_.1)))); (case side2 => exact (Kd.R_reads' HO531.out).2.1); (case side3 => refine (Kd.R_reads' (e := 71) (base := w.heap.size) (ok := fun k_ => (((some k_ ≠ (.slice Ao37 t512.length co37 : Value).ownBlock ∧ some k_ ≠ (.slice Ao47 t495.length co47 : Value).ownBlock) ∧ some k_ ≠ (.slice Ao135 t521.length co135 : Value).ownBlock) ∧ some k_ ≠ (.slice Ao144 t529.length co144 : Value).ownBlock)) (n := t479.length) (c := co30) ?_).2.2; exact (by (with_reducible repeat (first | apply Kd.R_alloc | apply Kd.R_drewN | apply Kd.R_drew)); exact (Kd.R_mono (Kd.R_far (p := ⟨gb533, 2, none⟩) (Kd.R_far (p := ⟨gb533, 1, none⟩) (Kd.R_far (p := ⟨gb533, 0, none⟩) (Kd.R_types HO_484002.out BK533.out (by decide)) (fun _ hk => hk.2) (.int .i64 t527)) (fun _ hk => hk.2) (.int .i64 t528)) (fun _ hk => hk.2) (.slice Ao144 t529.length co144)) (fun _ h_ => h_.1)))); (case side4 => exact (Kd.R_reads' HO_484002.out).2.1); rintro e w156 ⟨rfl, hb⟩; refine ⟨_, rfl, ?_⟩; have n0_ := Aside0.mk (Kd.R_below (by (with_reducible repeat (first | apply Kd.R_alloc | apply Kd.R_drewN | apply Kd.R_drew)); exact (Kd.R_mono (Kd.R_far (p := ⟨gb533, 2, none⟩) (Kd.R_far (p := ⟨gb533, 1, none⟩) (Kd.R_far (p := ⟨gb533, 0, none⟩) (Kd.R_types HO_484002.out BK533.out (by decide)) (fun _ hk => hk.2) (.int .i64 t527)) (fun _ hk => hk.2) (.int .i64 t528)) (fun _ hk => hk.2) (.slice Ao144 t529.length co144)) (fun _ h_ => h_.1))) hb); have n1_ := Aside0.mk (Kd.R_below (by (with_reducible repeat (first | apply Kd.R_alloc | apply Kd.R_drewN | apply Kd.R_drew)); exact (Kd.R_mono (Kd.R_far (p := ⟨gb533, 2, none⟩) (Kd.R_far (p := ⟨gb533, 1, none⟩) (Kd.R_far (p := ⟨gb533, 0, none⟩) (Kd.R_types HO_490002.out BK533.out (by decide)) (fun _ hk => hk.2) (.int .i64 t527)) (fun _ hk => hk.2) (.int .i64 t528)) (fun _ hk => hk.2) (.slice Ao144 t529.length co144)) (fun _ h_ => h_.1))) hb); have n2_ := Aside0.mk (Kd.R_below (by (with_reducible repeat (first | apply Kd.R_alloc | apply Kd.R_drewN | apply Kd.R_drew)); exact (Kd.R_mono (Kd.R_far (p := ⟨gb533, 2, none⟩) (Kd.R_far (p := ⟨gb533, 1, none⟩) (Kd.R_far (p := ⟨gb533, 0, none⟩) (Kd.R_types HO_500002.out BK533.out (by decide)) (fun _ hk => hk.2) (.int .i64 t527)) (fun _ hk => hk.2) (.int .i64 t528)) (fun _ hk => hk.2) (.slice Ao144 t529.length co144)) (fun _ h_ => h_.1))) hb); have n3_ := Aside0.mk (Kd.R_below (by (with_reducible repeat (first | apply Kd.R_alloc | apply Kd.R_drewN | apply Kd.R_drew)); exact (Kd.R_mono (Kd.R_far (p := ⟨gb533, 2, none⟩) (Kd.R_far (p := ⟨gb533, 1, none⟩) (Kd.R_far (p := ⟨gb533, 0, none⟩) (Kd.R_types HO523.out BK533.out (by decide)) (fun _ hk => hk.2) (.int .i64 t527)) (fun _ hk => hk.2) (.int .i64 t528)) (fun _ hk => hk.2) (.slice Ao144 t529.length co144)) (fun _ h_ => h_.1))) hb); have n4_ := Aside0.mk (Kd.R_below (by (with_reducible repeat (first | apply Kd.R_alloc | apply Kd.R_drewN | apply Kd.R_drew)); exact (Kd.R_mono (Kd.R_far (p := ⟨gb533, 2, none⟩) (Kd.R_far (p := ⟨gb533, 1, none⟩) (Kd.R_far (p := ⟨gb533, 0, none⟩) (Kd.R_types HO526.out BK533.out (by decide)) (fun _ hk => hk.2) (.int .i64 t527)) (fun _ hk => hk.2) (.int .i64 t528)) (fun _ hk => hk.2) (.slice Ao144 t529.length co144)) (fun _ h_ => h_.1))) hb); have n5_ := Aside0.mk (Kd.R_below (by (with_reducible repeat (first | apply Kd.R_alloc | apply Kd.R_drewN | apply Kd.R_drew)); exact (Kd.R_mono (Kd.R_far (p := ⟨gb533, 2, none⟩) (Kd.R_far (p := ⟨gb533, 1, none⟩) (Kd.R_far (p := ⟨gb533, 0, none⟩) (Kd.R_types HO531.out BK533.out (by decide)) (fun _ hk => hk.2) (.int .i64 t527)) (fun _ hk => hk.2) (.int .i64 t528)) (fun _ hk => hk.2) (.slice Ao144 t529.length co144)) (fun _ h_ => h_.1))) hb); have n6_ := Aside0.mk (blk_below (g := gb467) (o := .cells #[.int .i64 a0_0, .int .i64 a0_1, .slice A0_2 l0_2.length c0_2] 32 (0, 0)) (by (with_reducible repeat (first | refine blk_drewN ?_ _ | refine blk_drew ?_ | refine blk_alloc ?_ _)); refine blk_far ?_ NB467_533.out _; (with_reducible repeat (first | refine blk_drewN ?_ _ | refine blk_drew ?_ | refine blk_alloc ?_ _)); refine blk_far ?_ NB467_533.out _; (with_reducible repeat (first | refine blk_drewN ?_ _ | refine blk_drew ?_ | refine blk_alloc ?_ _)); refine blk_far ?_ NB467_533.out _; (with_reducible repeat (first | refine blk_drewN ?_ _ | refine blk_drew ?_ | refine blk_alloc ?_ _)); exact BK467.out) hb); have n7_ := Aside0.mk (blk_below (g := gb483) (o := .cells #[.int .i64 t477, .int .i64 t478, .slice Ao30 t479.length co30] 24 (0, 0)) (by (with_reducible repeat (first | refine blk_drewN ?_ _ | refine blk_drew ?_ | refine blk_alloc ?_ _)); refine blk_far ?_ NB483_533.out _; (with_reducible repeat (first | refine blk_drewN ?_ _ | refine blk_drew ?_ | refine blk_alloc ?_ _)); refine blk_far ?_ NB483_533.out _; (with_reducible repeat (first | refine blk_drewN ?_ _ | refine blk_drew ?_ | refine blk_alloc ?_ _)); refine blk_far ?_ NB483_533.out _; (with_reducible repeat (first | refine blk_drewN ?_ _ | refine blk_drew ?_ | refine blk_alloc ?_ _)); exact BK483.out) hb); have n8_ := Aside0.mk (blk_below (g := gb489) (o := .cells #[.int .i64 t484, .int .i64 t485, .slice Ao37 t512.length co37] 24 (0, 0)) (by (with_reducible repeat (first | refine blk_drewN ?_ _ | refine blk_drew ?_ | refine blk_alloc ?_ _)); refine blk_far ?_ NB489_533.out _; (with_reducible repeat (first | refine blk_drewN ?_ _ | refine blk_drew ?_ | refine blk_alloc ?_ _)); refine blk_far ?_ NB489_533.out _; (with_reducible repeat (first | refine blk_drewN ?_ _ | refine blk_drew ?_ | refine blk_alloc ?_ _)); refine blk_far ?_ NB489_533.out _; (with_reducible repeat (first | refine blk_drewN ?_ _ | refine blk_drew ?_ | refine blk_alloc ?_ _)); exact BK489.out) hb); have n9_ := Aside0.mk (blk_below (g := gb499) (o := .cells #[.int .i64 t493, .int .i64 t494, .slice Ao47 t495.length co47] 24 (0, 0)) (by (with_reducible repeat (first | refine blk_drewN ?_ _ | refine blk_drew ?_ | refine blk_alloc ?_ _)); refine blk_far ?_ NB499_533.out _; (with_reducible repeat (first | refine blk_drewN ?_ _ | refine blk_drew ?_ | refine blk_alloc ?_ _)); refine blk_far ?_ NB499_533.out _; (with_reducible repeat (first | refine blk_drewN ?_ _ | refine blk_drew ?_ | refine blk_alloc ?_ _)); refine blk_far ?_ NB499_533.out _; (with_reducible repeat (first | refine blk_drewN ?_ _ | refine blk_drew ?_ | refine blk_alloc ?_ _)); exact BK499.out) hb); have n10_ := Aside0.mk (blk_below (g := gb533) (o := .cells #[.int .i64 t527, .int .i64 t528, .slice Ao144 t529.length co144] 24 (0, 0)) (by (with_reducible repeat (first | refine blk_drewN ?_ _ | refine blk_drew ?_ | refine blk_alloc ?_ _)); refine blk_put (cs := #[.int .i64 t527, .int .i64 t528, .slice none 0 0]) ?_ 2 _ rfl; (with_reducible repeat (first | refine blk_drewN ?_ _ | refine blk_drew ?_ | refine blk_alloc ?_ _)); refine blk_put (cs := #[.int .i64 t527, .int .i64 0, .slice none 0 0]) ?_ 1 _ rfl; (with_reducible repeat (first | refine blk_drewN ?_ _ | refine blk_drew ?_ | refine blk_alloc ?_ _)); refine blk_put (cs := #[.int .i64 0, .int .i64 0, .slice none 0 0]) ?_ 0 _ rfl; (with_reducible repeat (first | refine blk_drewN ?_ _ | refine blk_drew ?_ | refine blk_alloc ?_ _)); exact BK533.out) hb); have n11_ := Aside0.mk (below_step (by repeat (first | (with_reducible first | exact HB.out | apply below_alloc | apply pw_below_drewN | apply below_drew1 | refine below_set ?_ GE467.out | refine below_set ?_ GE483.out | refine below_set ?_ GE489.out | refine below_set ?_ GE499.out | refine below_set ?_ GE533.out) | exact HB.out)) hb); clear HO_484002; clear HO_490002; clear HO_500002; clear HO523; clear HO526; clear HO531; clear BK467; clear BK483; clear BK489; clear BK499; clear BK533; clear HB; have HO_484002 := n0_; have HO_490002 := n1_; have HO_500002 := n2_; have HO523 := n3_; have HO526 := n4_; have HO531 := n5_; have BK467 := n6_; have BK483 := n7_; have BK489 := n8_; have BK499 := n9_; have BK533 := n10_; have HB := n11_; clear n0_ n1_ n2_ n3_ n4_ n5_ n6_ n7_ n8_ n9_ n10_ n11_; (try clear hb); (try clear hb2); (try clear hk); (try clear hi)))
                              go_meet
                              case rel => exact ⟨_, ((t532 != t482)), (by first | rfl | (simp; done) | (simp [*]; done)), H', ⟨by have := HJ16.out; have := HJ74.out; first | omega | exact Nat.le_refl _⟩, ⟨by (try simp only [hl490002_74]); (with_reducible repeat (first | apply Kd.R_alloc | apply Kd.R_drewN | apply Kd.R_drew)); exact Kd.R_mono HO_484002.out (fun _ hk => ⟨hk.1.1.1, ⟨hk.1.1.2, hk.2⟩⟩)⟩, ⟨by (try simp only [hl490002_74]); (with_reducible repeat (first | apply Kd.R_alloc | apply Kd.R_drewN | apply Kd.R_drew)); exact Kd.R_mono HO_490002.out (fun _ hk => ⟨hk.1.1.1, ⟨hk.1.1.2, hk.2⟩⟩)⟩, ⟨by (try simp only [hl490002_74]); (with_reducible repeat (first | apply Kd.R_alloc | apply Kd.R_drewN | apply Kd.R_drew)); exact Kd.R_mono HO_500002.out (fun _ hk => ⟨hk.1.1.1, ⟨hk.1.1.2, hk.2⟩⟩)⟩, ⟨by (try simp only [hl490002_74]); (with_reducible repeat (first | apply Kd.R_alloc | apply Kd.R_drewN | apply Kd.R_drew)); exact Kd.R_mono HO531.out (fun _ hk => ⟨hk.1.1.1.2, ⟨hk.1.1.2, hk.1.2⟩⟩)⟩, ⟨by (try simp only [hl490002_74]); (with_reducible repeat (first | refine blk_drewN ?_ _ | refine blk_drew ?_ | refine blk_alloc ?_ _)); exact BK467.out⟩, ⟨by (try simp only [hl490002_74]); (with_reducible repeat (first | refine blk_drewN ?_ _ | refine blk_drew ?_ | refine blk_alloc ?_ _)); exact BK483.out⟩, ⟨by (try simp only [hl490002_74]); (with_reducible repeat (first | refine blk_drewN ?_ _ | refine blk_drew ?_ | refine blk_alloc ?_ _)); exact BK489.out⟩, ⟨by (try simp only [hl490002_74]); (with_reducible repeat (first | refine blk_drewN ?_ _ | refine blk_drew ?_ | refine blk_alloc ?_ _)); exact BK499.out⟩, ⟨by (try simp only [hl490002_74]); (with_reducible repeat (first | refine blk_drewN ?_ _ | refine blk_drew ?_ | refine blk_alloc ?_ _)); exact BK533.out⟩, ⟨by repeat (first | (with_reducible first | exact HB.out | apply below_alloc | apply pw_below_drewN | apply below_drew1 | refine below_set ?_ GE467.out | refine below_set ?_ GE483.out | refine below_set ?_ GE489.out | refine below_set ?_ GE499.out | refine below_set ?_ GE533.out) | exact HB.out)⟩⟩
                            · replace c146 := Bool.eq_false_iff.mpr c146
                              subst c146
                              have H1 : (lw.j2 kj74 t516 true t493 t494 t517) = some r := by rw [if_neg (show ¬ (false = true) by decide)] at H; exact H
                              clear H
                              have H := H1
                              clear H1
                              have H' := Aside0.mk H
                              clear H
                              have hnb157 := NB533_467.out
                              have hnc157 := NB467_533.out
                              have hnb158 := NB533_483.out
                              have hnc158 := NB483_533.out
                              have hnb159 := NB533_489.out
                              have hnc159 := NB489_533.out
                              have hnb160 := NB533_499.out
                              have hnc160 := NB499_533.out
                              have hcz161_0 : w138.cell? ⟨gb533, 0, none⟩ = some (.int .i64 0) := (blk_cell BK533.out 0).trans rfl
                              have hcz161_1 : w138.cell? ⟨gb533, 1, none⟩ = some (.int .i64 0) := (blk_cell BK533.out 1).trans rfl
                              have hcz161_2 : w138.cell? ⟨gb533, 2, none⟩ = some (.slice none 0 0) := (blk_cell BK533.out 2).trans rfl
                              have hfz161_0 := blk_frozen BK533.out 0
                              have hfz161_1 := blk_frozen BK533.out 1
                              have hfz161_2 := blk_frozen BK533.out 2
                              have hnb162 := NB483_467.out
                              have hnc162 := NB467_483.out
                              have hnb163 := NB483_489.out
                              have hnc163 := NB489_483.out
                              have hnb164 := NB483_499.out
                              have hnc164 := NB499_483.out
                              have hcz165_0 : w138.cell? ⟨gb483, 0, none⟩ = some (.int .i64 t477) := (blk_cell BK483.out 0).trans rfl
                              have hcz165_1 : w138.cell? ⟨gb483, 1, none⟩ = some (.int .i64 t478) := (blk_cell BK483.out 1).trans rfl
                              have hcz165_2 : w138.cell? ⟨gb483, 2, none⟩ = some (.slice Ao30 t479.length co30) := (blk_cell BK483.out 2).trans rfl
                              have hfz165_0 := blk_frozen BK483.out 0
                              have hfz165_1 := blk_frozen BK483.out 1
                              have hfz165_2 := blk_frozen BK483.out 2
                              go_wp2_with (first | ((with_reducible refine gate_callee (f := 15) rfl ?_); refine goesL_ (some 107) rfl rfl Try.func15 (by kernel_rfl) rfl #[.agg #[.int .i64 t527, .int .i64 t528, .slice Ao144 t529.length co144], .agg #[.int .i64 t477, .int .i64 t478, .slice Ao30 t479.length co30]] rfl (by (try simp only [List.map_toArray, List.map_cons, List.map_nil]); first | done | rfl | (simp only [List.length_drop, List.length_take]; rfl)) ?_; (with_reducible refine (laws_eqBoard.calls kj74 t527 t528 _ _ t529 t477 t478 _ _ t479 false _ ?side1 ?side2 ?side3 ?side4 A145.out).mono ?_); (case side1 => refine (Kd.R_reads' (e := 71) (base := w.heap.size) (ok := fun k_ => ((((True ∧ some k_ ≠ (.slice Ao30 t479.length co30 : Value).ownBlock) ∧ some k_ ≠ (.slice Ao37 t512.length co37 : Value).ownBlock) ∧ some k_ ≠ (.slice Ao47 t495.length co47 : Value).ownBlock) ∧ some k_ ≠ (.slice Ao135 t521.length co135 : Value).ownBlock)) (n := t529.length) (c := co144) ?_).2.2; exact (by (with_reducible repeat (first | apply Kd.R_alloc | apply Kd.R_drewN | apply Kd.R_drew)); exact (Kd.R_mono (Kd.R_far (p := ⟨gb533, 2, none⟩) (Kd.R_far (p := ⟨gb533, 1, none⟩) (Kd.R_far (p := ⟨gb533, 0, none⟩) (Kd.R_types HO531.out BK533.out (by decide)) (fun _ hk => hk.2) (.int .i64 t527)) (fun _ hk => hk.2) (.int .i64 t528)) (fun _ hk => hk.2) (.slice Ao144 t529.length co144)) (fun _ h_ => h_.1)))); (case side2 => exact (Kd.R_reads' HO531.out).2.1); (case side3 => refine (Kd.R_reads' (e := 71) (base := w.heap.size) (ok := fun k_ => (((some k_ ≠ (.slice Ao37 t512.length co37 : Value).ownBlock ∧ some k_ ≠ (.slice Ao47 t495.length co47 : Value).ownBlock) ∧ some k_ ≠ (.slice Ao135 t521.length co135 : Value).ownBlock) ∧ some k_ ≠ (.slice Ao144 t529.length co144 : Value).ownBlock)) (n := t479.length) (c := co30) ?_).2.2; exact (by (with_reducible repeat (first | apply Kd.R_alloc | apply Kd.R_drewN | apply Kd.R_drew)); exact (Kd.R_mono (Kd.R_far (p := ⟨gb533, 2, none⟩) (Kd.R_far (p := ⟨gb533, 1, none⟩) (Kd.R_far (p := ⟨gb533, 0, none⟩) (Kd.R_types HO_484002.out BK533.out (by decide)) (fun _ hk => hk.2) (.int .i64 t527)) (fun _ hk => hk.2) (.int .i64 t528)) (fun _ hk => hk.2) (.slice Ao144 t529.length co144)) (fun _ h_ => h_.1)))); (case side4 => exact (Kd.R_reads' HO_484002.out).2.1); rintro e w166 ⟨rfl, hb⟩; refine ⟨_, rfl, ?_⟩; have n0_ := Aside0.mk (Kd.R_below (by (with_reducible repeat (first | apply Kd.R_alloc | apply Kd.R_drewN | apply Kd.R_drew)); exact (Kd.R_mono (Kd.R_far (p := ⟨gb533, 2, none⟩) (Kd.R_far (p := ⟨gb533, 1, none⟩) (Kd.R_far (p := ⟨gb533, 0, none⟩) (Kd.R_types HO_484002.out BK533.out (by decide)) (fun _ hk => hk.2) (.int .i64 t527)) (fun _ hk => hk.2) (.int .i64 t528)) (fun _ hk => hk.2) (.slice Ao144 t529.length co144)) (fun _ h_ => h_.1))) hb); have n1_ := Aside0.mk (Kd.R_below (by (with_reducible repeat (first | apply Kd.R_alloc | apply Kd.R_drewN | apply Kd.R_drew)); exact (Kd.R_mono (Kd.R_far (p := ⟨gb533, 2, none⟩) (Kd.R_far (p := ⟨gb533, 1, none⟩) (Kd.R_far (p := ⟨gb533, 0, none⟩) (Kd.R_types HO_490002.out BK533.out (by decide)) (fun _ hk => hk.2) (.int .i64 t527)) (fun _ hk => hk.2) (.int .i64 t528)) (fun _ hk => hk.2) (.slice Ao144 t529.length co144)) (fun _ h_ => h_.1))) hb); have n2_ := Aside0.mk (Kd.R_below (by (with_reducible repeat (first | apply Kd.R_alloc | apply Kd.R_drewN | apply Kd.R_drew)); exact (Kd.R_mono (Kd.R_far (p := ⟨gb533, 2, none⟩) (Kd.R_far (p := ⟨gb533, 1, none⟩) (Kd.R_far (p := ⟨gb533, 0, none⟩) (Kd.R_types HO_500002.out BK533.out (by decide)) (fun _ hk => hk.2) (.int .i64 t527)) (fun _ hk => hk.2) (.int .i64 t528)) (fun _ hk => hk.2) (.slice Ao144 t529.length co144)) (fun _ h_ => h_.1))) hb); have n3_ := Aside0.mk (Kd.R_below (by (with_reducible repeat (first | apply Kd.R_alloc | apply Kd.R_drewN | apply Kd.R_drew)); exact (Kd.R_mono (Kd.R_far (p := ⟨gb533, 2, none⟩) (Kd.R_far (p := ⟨gb533, 1, none⟩) (Kd.R_far (p := ⟨gb533, 0, none⟩) (Kd.R_types HO523.out BK533.out (by decide)) (fun _ hk => hk.2) (.int .i64 t527)) (fun _ hk => hk.2) (.int .i64 t528)) (fun _ hk => hk.2) (.slice Ao144 t529.length co144)) (fun _ h_ => h_.1))) hb); have n4_ := Aside0.mk (Kd.R_below (by (with_reducible repeat (first | apply Kd.R_alloc | apply Kd.R_drewN | apply Kd.R_drew)); exact (Kd.R_mono (Kd.R_far (p := ⟨gb533, 2, none⟩) (Kd.R_far (p := ⟨gb533, 1, none⟩) (Kd.R_far (p := ⟨gb533, 0, none⟩) (Kd.R_types HO526.out BK533.out (by decide)) (fun _ hk => hk.2) (.int .i64 t527)) (fun _ hk => hk.2) (.int .i64 t528)) (fun _ hk => hk.2) (.slice Ao144 t529.length co144)) (fun _ h_ => h_.1))) hb); have n5_ := Aside0.mk (Kd.R_below (by (with_reducible repeat (first | apply Kd.R_alloc | apply Kd.R_drewN | apply Kd.R_drew)); exact (Kd.R_mono (Kd.R_far (p := ⟨gb533, 2, none⟩) (Kd.R_far (p := ⟨gb533, 1, none⟩) (Kd.R_far (p := ⟨gb533, 0, none⟩) (Kd.R_types HO531.out BK533.out (by decide)) (fun _ hk => hk.2) (.int .i64 t527)) (fun _ hk => hk.2) (.int .i64 t528)) (fun _ hk => hk.2) (.slice Ao144 t529.length co144)) (fun _ h_ => h_.1))) hb); have n6_ := Aside0.mk (blk_below (g := gb467) (o := .cells #[.int .i64 a0_0, .int .i64 a0_1, .slice A0_2 l0_2.length c0_2] 32 (0, 0)) (by (with_reducible repeat (first | refine blk_drewN ?_ _ | refine blk_drew ?_ | refine blk_alloc ?_ _)); refine blk_far ?_ NB467_533.out _; (with_reducible repeat (first | refine blk_drewN ?_ _ | refine blk_drew ?_ | refine blk_alloc ?_ _)); refine blk_far ?_ NB467_533.out _; (with_reducible repeat (first | refine blk_drewN ?_ _ | refine blk_drew ?_ | refine blk_alloc ?_ _)); refine blk_far ?_ NB467_533.out _; (with_reducible repeat (first | refine blk_drewN ?_ _ | refine blk_drew ?_ | refine blk_alloc ?_ _)); exact BK467.out) hb); have n7_ := Aside0.mk (blk_below (g := gb483) (o := .cells #[.int .i64 t477, .int .i64 t478, .slice Ao30 t479.length co30] 24 (0, 0)) (by (with_reducible repeat (first | refine blk_drewN ?_ _ | refine blk_drew ?_ | refine blk_alloc ?_ _)); refine blk_far ?_ NB483_533.out _; (with_reducible repeat (first | refine blk_drewN ?_ _ | refine blk_drew ?_ | refine blk_alloc ?_ _)); refine blk_far ?_ NB483_533.out _; (with_reducible repeat (first | refine blk_drewN ?_ _ | refine blk_drew ?_ | refine blk_alloc ?_ _)); refine blk_far ?_ NB483_533.out _; (with_reducible repeat (first | refine blk_drewN ?_ _ | refine blk_drew ?_ | refine blk_alloc ?_ _)); exact BK483.out) hb); have n8_ := Aside0.mk (blk_below (g := gb489) (o := .cells #[.int .i64 t484, .int .i64 t485, .slice Ao37 t512.length co37] 24 (0, 0)) (by (with_reducible repeat (first | refine blk_drewN ?_ _ | refine blk_drew ?_ | refine blk_alloc ?_ _)); refine blk_far ?_ NB489_533.out _; (with_reducible repeat (first | refine blk_drewN ?_ _ | refine blk_drew ?_ | refine blk_alloc ?_ _)); refine blk_far ?_ NB489_533.out _; (with_reducible repeat (first | refine blk_drewN ?_ _ | refine blk_drew ?_ | refine blk_alloc ?_ _)); refine blk_far ?_ NB489_533.out _; (with_reducible repeat (first | refine blk_drewN ?_ _ | refine blk_drew ?_ | refine blk_alloc ?_ _)); exact BK489.out) hb); have n9_ := Aside0.mk (blk_below (g := gb499) (o := .cells #[.int .i64 t493, .int .i64 t494, .slice Ao47 t495.length co47] 24 (0, 0)) (by (with_reducible repeat (first | refine blk_drewN ?_ _ | refine blk_drew ?_ | refine blk_alloc ?_ _)); refine blk_far ?_ NB499_533.out _; (with_reducible repeat (first | refine blk_drewN ?_ _ | refine blk_drew ?_ | refine blk_alloc ?_ _)); refine blk_far ?_ NB499_533.out _; (with_reducible repeat (first | refine blk_drewN ?_ _ | refine blk_drew ?_ | refine blk_alloc ?_ _)); refine blk_far ?_ NB499_533.out _; (with_reducible repeat (first | refine blk_drewN ?_ _ | refine blk_drew ?_ | refine blk_alloc ?_ _)); exact BK499.out) hb); have n10_ := Aside0.mk (blk_below (g := gb533) (o := .cells #[.int .i64 t527, .int .i64 t528, .slice Ao144 t529.length co144] 24 (0, 0)) (by (with_reducible repeat (first | refine blk_drewN ?_ _ | refine blk_drew ?_ | refine blk_alloc ?_ _)); refine blk_put (cs := #[.int .i64 t527, .int .i64 t528, .slice none 0 0]) ?_ 2 _ rfl; (with_reducible repeat (first | refine blk_drewN ?_ _ | refine blk_drew ?_ | refine blk_alloc ?_ _)); refine blk_put (cs := #[.int .i64 t527, .int .i64 0, .slice none 0 0]) ?_ 1 _ rfl; (with_reducible repeat (first | refine blk_drewN ?_ _ | refine blk_drew ?_ | refine blk_alloc ?_ _)); refine blk_put (cs := #[.int .i64 0, .int .i64 0, .slice none 0 0]) ?_ 0 _ rfl; (with_reducible repeat (first | refine blk_drewN ?_ _ | refine blk_drew ?_ | refine blk_alloc ?_ _)); exact BK533.out) hb); have n11_ := Aside0.mk (below_step (by repeat (first | (with_reducible first | exact HB.out | apply below_alloc | apply pw_below_drewN | apply below_drew1 | refine below_set ?_ GE467.out | refine below_set ?_ GE483.out | refine below_set ?_ GE489.out | refine below_set ?_ GE499.out | refine below_set ?_ GE533.out) | exact HB.out)) hb); clear HO_484002; clear HO_490002; clear HO_500002; clear HO523; clear HO526; clear HO531; clear BK467; clear BK483; clear BK489; clear BK499; clear BK533; clear HB; have HO_484002 := n0_; have HO_490002 := n1_; have HO_500002 := n2_; have HO523 := n3_; have HO526 := n4_; have HO531 := n5_; have BK467 := n6_; have BK483 := n7_; have BK489 := n8_; have BK499 := n9_; have BK533 := n10_; have HB := n11_; clear n0_ n1_ n2_ n3_ n4_ n5_ n6_ n7_ n8_ n9_ n10_ n11_; (try clear hb); (try clear hb2); (try clear hk); (try clear hi)))
                              go_meet
                              case rel => exact ⟨_, (true), (by first | rfl | (simp; done) | (simp [*]; done)), H', ⟨by have := HJ16.out; have := HJ74.out; first | omega | exact Nat.le_refl _⟩, ⟨by (try simp only [hl490002_74]); (with_reducible repeat (first | apply Kd.R_alloc | apply Kd.R_drewN | apply Kd.R_drew)); exact Kd.R_mono HO_484002.out (fun _ hk => ⟨hk.1.1.1, ⟨hk.1.1.2, hk.2⟩⟩)⟩, ⟨by (try simp only [hl490002_74]); (with_reducible repeat (first | apply Kd.R_alloc | apply Kd.R_drewN | apply Kd.R_drew)); exact Kd.R_mono HO_490002.out (fun _ hk => ⟨hk.1.1.1, ⟨hk.1.1.2, hk.2⟩⟩)⟩, ⟨by (try simp only [hl490002_74]); (with_reducible repeat (first | apply Kd.R_alloc | apply Kd.R_drewN | apply Kd.R_drew)); exact Kd.R_mono HO_500002.out (fun _ hk => ⟨hk.1.1.1, ⟨hk.1.1.2, hk.2⟩⟩)⟩, ⟨by (try simp only [hl490002_74]); (with_reducible repeat (first | apply Kd.R_alloc | apply Kd.R_drewN | apply Kd.R_drew)); exact Kd.R_mono HO531.out (fun _ hk => ⟨hk.1.1.1.2, ⟨hk.1.1.2, hk.1.2⟩⟩)⟩, ⟨by (try simp only [hl490002_74]); (with_reducible repeat (first | refine blk_drewN ?_ _ | refine blk_drew ?_ | refine blk_alloc ?_ _)); exact BK467.out⟩, ⟨by (try simp only [hl490002_74]); (with_reducible repeat (first | refine blk_drewN ?_ _ | refine blk_drew ?_ | refine blk_alloc ?_ _)); exact BK483.out⟩, ⟨by (try simp only [hl490002_74]); (with_reducible repeat (first | refine blk_drewN ?_ _ | refine blk_drew ?_ | refine blk_alloc ?_ _)); exact BK489.out⟩, ⟨by (try simp only [hl490002_74]); (with_reducible repeat (first | refine blk_drewN ?_ _ | refine blk_drew ?_ | refine blk_alloc ?_ _)); exact BK499.out⟩, ⟨by (try simp only [hl490002_74]); (with_reducible repeat (first | refine blk_drewN ?_ _ | refine blk_drew ?_ | refine blk_alloc ?_ _)); exact BK533.out⟩, ⟨by repeat (first | (with_reducible first | exact HB.out | apply below_alloc | apply pw_below_drewN | apply below_drew1 | refine below_set ?_ GE467.out | refine below_set ?_ GE483.out | refine below_set ?_ GE489.out | refine below_set ?_ GE499.out | refine below_set ?_ GE533.out) | exact HB.out)⟩⟩
                          case rest =>
                            clear HC122
                            try clear c1
                            try clear c2
                            try clear p2
                            try clear c3
                            try clear c4
                            try clear c4b0
                            try clear c4b1
                            try clear c5
                            try clear c6
                            try clear c7
                            try clear c7b0
                            try clear c8
                            try clear c9
                            try clear c10
                            try clear c11
                            try clear c12
                            try clear c13
                            try clear c14
                            try clear c15
                            try clear c16
                            try clear c17
                            try clear c18
                            try clear c20
                            try clear c25
                            try clear c27
                            try clear c28
                            try clear c29
                            try clear c30
                            try clear c34
                            try clear c35
                            try clear c43
                            try clear c44
                            try clear c45
                            try clear c49
                            try clear c50
                            try clear c51
                            try clear c52
                            try clear c54
                            try clear c55
                            try clear c58
                            try clear c59
                            try clear c60
                            try clear c62
                            try clear c63
                            try clear c66
                            try clear c69
                            try clear c72
                            try clear c82
                            try clear c83
                            try clear c84
                            try clear c88
                            try clear c88b0
                            try clear c90
                            try clear c91
                            try clear c92
                            try clear c93
                            try clear c95
                            try clear c96
                            try clear c99
                            try clear c100
                            try clear c101
                            try clear c103
                            try clear c104
                            try clear c107
                            try clear c110
                            try clear c110b0
                            try clear c111
                            try clear c112
                            try clear c113
                            try clear c118
                            try clear c118b0
                            try clear c118b1
                            try clear c123
                            try clear c124
                            try clear c125
                            try clear c130
                            try clear c131
                            try clear c139
                            try clear c140
                            try clear c141
                            try clear c142
                            try clear c146
                            try clear c147
                            try clear c148
                            try clear c149
                            try clear c150
                            try clear c152
                            try clear c153
                            try clear c154
                            try clear c157
                            try clear c158
                            try clear c159
                            try clear c160
                            try clear c162
                            try clear c163
                            try clear c164
                            try clear hcz102_0
                            try clear hcz102_1
                            try clear hcz102_2
                            try clear hcz105_0
                            try clear hcz105_1
                            try clear hcz105_2
                            try clear hcz114_0
                            try clear hcz114_1
                            try clear hcz114_2
                            try clear hcz116_0
                            try clear hcz116_1
                            try clear hcz116_2
                            try clear hcz126_0
                            try clear hcz126_1
                            try clear hcz126_2
                            try clear hcz128_0
                            try clear hcz128_1
                            try clear hcz128_2
                            try clear hcz132_0
                            try clear hcz132_1
                            try clear hcz132_2
                            try clear hcz143_0
                            try clear hcz143_1
                            try clear hcz143_2
                            try clear hcz151_0
                            try clear hcz151_1
                            try clear hcz151_2
                            try clear hcz155_0
                            try clear hcz155_1
                            try clear hcz155_2
                            try clear hcz161_0
                            try clear hcz161_1
                            try clear hcz161_2
                            try clear hcz165_0
                            try clear hcz165_1
                            try clear hcz165_2
                            try clear hcz19_0
                            try clear hcz19_1
                            try clear hcz19_2
                            try clear hcz21_0
                            try clear hcz21_1
                            try clear hcz21_2
                            try clear hcz29_0
                            try clear hcz29_1
                            try clear hcz29_2
                            try clear hcz31_0
                            try clear hcz31_1
                            try clear hcz31_2
                            try clear hcz36_0
                            try clear hcz36_1
                            try clear hcz36_2
                            try clear hcz39_0
                            try clear hcz39_1
                            try clear hcz39_2
                            try clear hcz46_0
                            try clear hcz46_1
                            try clear hcz46_2
                            try clear hcz53_0
                            try clear hcz53_1
                            try clear hcz53_2
                            try clear hcz56_0
                            try clear hcz56_1
                            try clear hcz56_2
                            try clear hcz61_0
                            try clear hcz61_1
                            try clear hcz61_2
                            try clear hcz64_0
                            try clear hcz64_1
                            try clear hcz64_2
                            try clear hcz85_0
                            try clear hcz85_1
                            try clear hcz85_2
                            try clear hcz94_0
                            try clear hcz94_1
                            try clear hcz94_2
                            try clear hcz97_0
                            try clear hcz97_1
                            try clear hcz97_2
                            try clear hcz9_0
                            try clear hcz9_1
                            try clear hcz9_2
                            try clear hfz102_0
                            try clear hfz102_1
                            try clear hfz102_2
                            try clear hfz105_0
                            try clear hfz105_1
                            try clear hfz105_2
                            try clear hfz114_0
                            try clear hfz114_1
                            try clear hfz114_2
                            try clear hfz116_0
                            try clear hfz116_1
                            try clear hfz116_2
                            try clear hfz126_0
                            try clear hfz126_1
                            try clear hfz126_2
                            try clear hfz128_0
                            try clear hfz128_1
                            try clear hfz128_2
                            try clear hfz132_0
                            try clear hfz132_1
                            try clear hfz132_2
                            try clear hfz143_0
                            try clear hfz143_1
                            try clear hfz143_2
                            try clear hfz151_0
                            try clear hfz151_1
                            try clear hfz151_2
                            try clear hfz155_0
                            try clear hfz155_1
                            try clear hfz155_2
                            try clear hfz161_0
                            try clear hfz161_1
                            try clear hfz161_2
                            try clear hfz165_0
                            try clear hfz165_1
                            try clear hfz165_2
                            try clear hfz19_0
                            try clear hfz19_1
                            try clear hfz19_2
                            try clear hfz21_0
                            try clear hfz21_1
                            try clear hfz21_2
                            try clear hfz29_0
                            try clear hfz29_1
                            try clear hfz29_2
                            try clear hfz31_0
                            try clear hfz31_1
                            try clear hfz31_2
                            try clear hfz36_0
                            try clear hfz36_1
                            try clear hfz36_2
                            try clear hfz39_0
                            try clear hfz39_1
                            try clear hfz39_2
                            try clear hfz46_0
                            try clear hfz46_1
                            try clear hfz46_2
                            try clear hfz53_0
                            try clear hfz53_1
                            try clear hfz53_2
                            try clear hfz56_0
                            try clear hfz56_1
                            try clear hfz56_2
                            try clear hfz61_0
                            try clear hfz61_1
                            try clear hfz61_2
                            try clear hfz64_0
                            try clear hfz64_1
                            try clear hfz64_2
                            try clear hfz85_0
                            try clear hfz85_1
                            try clear hfz85_2
                            try clear hfz94_0
                            try clear hfz94_1
                            try clear hfz94_2
                            try clear hfz97_0
                            try clear hfz97_1
                            try clear hfz97_2
                            try clear hfz9_0
                            try clear hfz9_1
                            try clear hfz9_2
                            try clear p2
                            obtain ⟨kq, x113_121, rfl, HA, HJ121, HO_484002, HO_490002, HO_500002, HO_534002, BK467, BK483, BK489, BK499, BK533, HB⟩ := hcut
                            have hl500002_121 := (Kd.R_reads' HO_500002.out).1
                            rw [hl500002_121] at HO_500002
                            (try simp only [hl500002_121])
                            (try simp only [hl500002_121] at BK467)
                            (try simp only [hl500002_121] at BK483)
                            (try simp only [hl500002_121] at BK489)
                            (try simp only [hl500002_121] at BK499)
                            (try simp only [hl500002_121] at BK533)
                            (try simp only [hl500002_121] at HO_484002)
                            (try simp only [hl500002_121] at HO_490002)
                            (try simp only [hl500002_121] at HO_534002)
                            cases kq with
                            | zero => exact absurd HA.out (by simp [lw.j2])
                            | succ kj121 =>
                              have H := HA.out
                              clear HA
                              simp only [lw.j2] at H
                              by_cases c167 : x113_121 = true
                              · subst c167
                                have H1 : (some false) = some r := by rw [if_pos rfl] at H; exact H
                                clear H
                                have H := H1
                                clear H1
                                obtain rfl := Option.some.inj H
                                go_wp2
                                go_ret
                                exact ⟨by first | rfl | (simp [errW_none, errW_some] <;> rfl) | (simp [*, errW_none, errW_some] <;> rfl), by repeat (first | (with_reducible first | exact HB.out | apply below_alloc | apply pw_below_drewN | apply below_drew1 | refine below_set ?_ GE467.out | refine below_set ?_ GE483.out | refine below_set ?_ GE489.out | refine below_set ?_ GE499.out | refine below_set ?_ GE533.out) | exact HB.out)⟩
                              · replace c167 := Bool.eq_false_iff.mpr c167
                                subst c167
                                have H1 : ((laws_heldBoard.f kj121 t493 t494 t517 1).bind fun t535 => (if t535 < 0 then (some false) else (if t535 = t516 then (some true) else (some false)))) = some r := by rw [if_neg (show ¬ (false = true) by decide)] at H; exact H
                                clear H
                                have H := H1
                                clear H1
                                replace H := Option.bind_eq_some_iff.mp H
                                obtain ⟨t535, A1680, H⟩ := H
                                replace H : (if t535 < 0 then (some false) else (if t535 = t516 then (some true) else (some false))) = some r := H
                                have A168 := Aside0.mk A1680
                                clear A1680
                                by_cases c169 : t535 < 0
                                · rw [if_pos c169] at H
                                  have c169b0 : decide (t535 < 0) = true := decide_eq_true c169
                                  clear c169
                                  obtain rfl := Option.some.inj H
                                  have hnb170 := NB499_467.out
                                  have hnc170 := NB467_499.out
                                  have hnb171 := NB499_483.out
                                  have hnc171 := NB483_499.out
                                  have hnb172 := NB499_489.out
                                  have hnc172 := NB489_499.out
                                  have hnb173 := NB499_533.out
                                  have hnc173 := NB533_499.out
                                  have hcz174_0 : wc.cell? ⟨gb499, 0, none⟩ = some (.int .i64 t493) := (blk_cell BK499.out 0).trans rfl
                                  have hcz174_1 : wc.cell? ⟨gb499, 1, none⟩ = some (.int .i64 t494) := (blk_cell BK499.out 1).trans rfl
                                  have hcz174_2 : wc.cell? ⟨gb499, 2, none⟩ = some (.slice Ao47 t517.length co47) := (blk_cell BK499.out 2).trans rfl
                                  have hfz174_0 := blk_frozen BK499.out 0
                                  have hfz174_1 := blk_frozen BK499.out 1
                                  have hfz174_2 := blk_frozen BK499.out 2
                                  go_wp2_with (first | ((with_reducible refine gate_callee (f := 17) rfl ?_); refine goesL_ (some 116) rfl rfl Try.func17 (by kernel_rfl) rfl #[.agg #[.int .i64 t493, .int .i64 t494, .slice Ao47 t517.length co47], .int .i64 1] rfl (by (try simp only [List.map_toArray, List.map_cons, List.map_nil]); first | done | rfl | (simp only [List.length_drop, List.length_take]; rfl)) ?_; (with_reducible refine (laws_heldBoard.calls kj121 t493 t494 _ _ t517 1 t535 _ ?side1 ?side2 A168.out).mono ?_); (case side1 => repeat (first | exact (Kd.R_reads' HO_500002.out).2.2 | (with_reducible refine Kd.C_alloc ?_ _) | (with_reducible refine Kd.C_drewN ?_ _) | (with_reducible refine Kd.C_drew ?_))); (case side2 => exact (Kd.R_reads' HO_500002.out).2.1); rintro e w175 ⟨rfl, hb⟩; refine ⟨_, rfl, ?_⟩; have n0_ := Aside0.mk (Kd.R_below (by (with_reducible repeat (first | apply Kd.R_alloc | apply Kd.R_drewN | apply Kd.R_drew)); exact HO_484002.out) hb); have n1_ := Aside0.mk (Kd.R_below (by (with_reducible repeat (first | apply Kd.R_alloc | apply Kd.R_drewN | apply Kd.R_drew)); exact HO_490002.out) hb); have n2_ := Aside0.mk (Kd.R_below (by (with_reducible repeat (first | apply Kd.R_alloc | apply Kd.R_drewN | apply Kd.R_drew)); exact HO_500002.out) hb); have n3_ := Aside0.mk (Kd.R_below (by (with_reducible repeat (first | apply Kd.R_alloc | apply Kd.R_drewN | apply Kd.R_drew)); exact HO_534002.out) hb); have n4_ := Aside0.mk (blk_below (g := gb467) (o := .cells #[.int .i64 a0_0, .int .i64 a0_1, .slice A0_2 l0_2.length c0_2] 32 (0, 0)) (by (with_reducible repeat (first | refine blk_drewN ?_ _ | refine blk_drew ?_ | refine blk_alloc ?_ _)); exact BK467.out) hb); have n5_ := Aside0.mk (blk_below (g := gb483) (o := .cells #[.int .i64 t477, .int .i64 t478, .slice Ao30 t479.length co30] 24 (0, 0)) (by (with_reducible repeat (first | refine blk_drewN ?_ _ | refine blk_drew ?_ | refine blk_alloc ?_ _)); exact BK483.out) hb); have n6_ := Aside0.mk (blk_below (g := gb489) (o := .cells #[.int .i64 t484, .int .i64 t485, .slice Ao37 t512.length co37] 24 (0, 0)) (by (with_reducible repeat (first | refine blk_drewN ?_ _ | refine blk_drew ?_ | refine blk_alloc ?_ _)); exact BK489.out) hb); have n7_ := Aside0.mk (blk_below (g := gb499) (o := .cells #[.int .i64 t493, .int .i64 t494, .slice Ao47 t517.length co47] 24 (0, 0)) (by (with_reducible repeat (first | refine blk_drewN ?_ _ | refine blk_drew ?_ | refine blk_alloc ?_ _)); exact BK499.out) hb); have n8_ := Aside0.mk (blk_below (g := gb533) (o := .cells #[.int .i64 t527, .int .i64 t528, .slice Ao144 t529.length co144] 24 (0, 0)) (by (with_reducible repeat (first | refine blk_drewN ?_ _ | refine blk_drew ?_ | refine blk_alloc ?_ _)); exact BK533.out) hb); have n9_ := Aside0.mk (below_step (by repeat (first | (with_reducible first | exact HB.out | apply below_alloc | apply pw_below_drewN | apply below_drew1 | refine below_set ?_ GE467.out | refine below_set ?_ GE483.out | refine below_set ?_ GE489.out | refine below_set ?_ GE499.out | refine below_set ?_ GE533.out) | exact HB.out)) hb); clear HO_484002; clear HO_490002; clear HO_500002; clear HO_534002; clear BK467; clear BK483; clear BK489; clear BK499; clear BK533; clear HB; have HO_484002 := n0_; have HO_490002 := n1_; have HO_500002 := n2_; have HO_534002 := n3_; have BK467 := n4_; have BK483 := n5_; have BK489 := n6_; have BK499 := n7_; have BK533 := n8_; have HB := n9_; clear n0_ n1_ n2_ n3_ n4_ n5_ n6_ n7_ n8_ n9_; (try clear hb); (try clear hb2); (try clear hk); (try clear hi)))
                                  go_ret
                                  exact ⟨by first | rfl | (simp [errW_none, errW_some] <;> rfl) | (simp [*, errW_none, errW_some] <;> rfl), by repeat (first | (with_reducible first | exact HB.out | apply below_alloc | apply pw_below_drewN | apply below_drew1 | refine below_set ?_ GE467.out | refine below_set ?_ GE483.out | refine below_set ?_ GE489.out | refine below_set ?_ GE499.out | refine below_set ?_ GE533.out) | exact HB.out)⟩
                                · rw [if_neg c169] at H
                                  have c169b0 : decide (t535 < 0) = false := decide_eq_false c169
                                  clear c169
                                  by_cases c176 : t535 = t516
                                  · rw [if_pos c176] at H
                                    have c176b0 : (t535 == t516) = true := beq_iff_eq.mpr c176
                                    have c176b1 : (t535 != t516) = false := bne_eq_false_iff_eq.mpr c176
                                    clear c176
                                    obtain rfl := Option.some.inj H
                                    have hnb177 := NB499_467.out
                                    have hnc177 := NB467_499.out
                                    have hnb178 := NB499_483.out
                                    have hnc178 := NB483_499.out
                                    have hnb179 := NB499_489.out
                                    have hnc179 := NB489_499.out
                                    have hnb180 := NB499_533.out
                                    have hnc180 := NB533_499.out
                                    have hcz181_0 : wc.cell? ⟨gb499, 0, none⟩ = some (.int .i64 t493) := (blk_cell BK499.out 0).trans rfl
                                    have hcz181_1 : wc.cell? ⟨gb499, 1, none⟩ = some (.int .i64 t494) := (blk_cell BK499.out 1).trans rfl
                                    have hcz181_2 : wc.cell? ⟨gb499, 2, none⟩ = some (.slice Ao47 t517.length co47) := (blk_cell BK499.out 2).trans rfl
                                    have hfz181_0 := blk_frozen BK499.out 0
                                    have hfz181_1 := blk_frozen BK499.out 1
                                    have hfz181_2 := blk_frozen BK499.out 2
                                    go_wp2_with (first | ((with_reducible refine gate_callee (f := 17) rfl ?_); refine goesL_ (some 116) rfl rfl Try.func17 (by kernel_rfl) rfl #[.agg #[.int .i64 t493, .int .i64 t494, .slice Ao47 t517.length co47], .int .i64 1] rfl (by (try simp only [List.map_toArray, List.map_cons, List.map_nil]); first | done | rfl | (simp only [List.length_drop, List.length_take]; rfl)) ?_; (with_reducible refine (laws_heldBoard.calls kj121 t493 t494 _ _ t517 1 t535 _ ?side1 ?side2 A168.out).mono ?_); (case side1 => repeat (first | exact (Kd.R_reads' HO_500002.out).2.2 | (with_reducible refine Kd.C_alloc ?_ _) | (with_reducible refine Kd.C_drewN ?_ _) | (with_reducible refine Kd.C_drew ?_))); (case side2 => exact (Kd.R_reads' HO_500002.out).2.1); rintro e w182 ⟨rfl, hb⟩; refine ⟨_, rfl, ?_⟩; have n0_ := Aside0.mk (Kd.R_below (by (with_reducible repeat (first | apply Kd.R_alloc | apply Kd.R_drewN | apply Kd.R_drew)); exact HO_484002.out) hb); have n1_ := Aside0.mk (Kd.R_below (by (with_reducible repeat (first | apply Kd.R_alloc | apply Kd.R_drewN | apply Kd.R_drew)); exact HO_490002.out) hb); have n2_ := Aside0.mk (Kd.R_below (by (with_reducible repeat (first | apply Kd.R_alloc | apply Kd.R_drewN | apply Kd.R_drew)); exact HO_500002.out) hb); have n3_ := Aside0.mk (Kd.R_below (by (with_reducible repeat (first | apply Kd.R_alloc | apply Kd.R_drewN | apply Kd.R_drew)); exact HO_534002.out) hb); have n4_ := Aside0.mk (blk_below (g := gb467) (o := .cells #[.int .i64 a0_0, .int .i64 a0_1, .slice A0_2 l0_2.length c0_2] 32 (0, 0)) (by (with_reducible repeat (first | refine blk_drewN ?_ _ | refine blk_drew ?_ | refine blk_alloc ?_ _)); exact BK467.out) hb); have n5_ := Aside0.mk (blk_below (g := gb483) (o := .cells #[.int .i64 t477, .int .i64 t478, .slice Ao30 t479.length co30] 24 (0, 0)) (by (with_reducible repeat (first | refine blk_drewN ?_ _ | refine blk_drew ?_ | refine blk_alloc ?_ _)); exact BK483.out) hb); have n6_ := Aside0.mk (blk_below (g := gb489) (o := .cells #[.int .i64 t484, .int .i64 t485, .slice Ao37 t512.length co37] 24 (0, 0)) (by (with_reducible repeat (first | refine blk_drewN ?_ _ | refine blk_drew ?_ | refine blk_alloc ?_ _)); exact BK489.out) hb); have n7_ := Aside0.mk (blk_below (g := gb499) (o := .cells #[.int .i64 t493, .int .i64 t494, .slice Ao47 t517.length co47] 24 (0, 0)) (by (with_reducible repeat (first | refine blk_drewN ?_ _ | refine blk_drew ?_ | refine blk_alloc ?_ _)); exact BK499.out) hb); have n8_ := Aside0.mk (blk_below (g := gb533) (o := .cells #[.int .i64 t527, .int .i64 t528, .slice Ao144 t529.length co144] 24 (0, 0)) (by (with_reducible repeat (first | refine blk_drewN ?_ _ | refine blk_drew ?_ | refine blk_alloc ?_ _)); exact BK533.out) hb); have n9_ := Aside0.mk (below_step (by repeat (first | (with_reducible first | exact HB.out | apply below_alloc | apply pw_below_drewN | apply below_drew1 | refine below_set ?_ GE467.out | refine below_set ?_ GE483.out | refine below_set ?_ GE489.out | refine below_set ?_ GE499.out | refine below_set ?_ GE533.out) | exact HB.out)) hb); clear HO_484002; clear HO_490002; clear HO_500002; clear HO_534002; clear BK467; clear BK483; clear BK489; clear BK499; clear BK533; clear HB; have HO_484002 := n0_; have HO_490002 := n1_; have HO_500002 := n2_; have HO_534002 := n3_; have BK467 := n4_; have BK483 := n5_; have BK489 := n6_; have BK499 := n7_; have BK533 := n8_; have HB := n9_; clear n0_ n1_ n2_ n3_ n4_ n5_ n6_ n7_ n8_ n9_; (try clear hb); (try clear hb2); (try clear hk); (try clear hi)))
                                    go_ret
                                    exact ⟨by first | rfl | (simp [errW_none, errW_some] <;> rfl) | (simp [*, errW_none, errW_some] <;> rfl), by repeat (first | (with_reducible first | exact HB.out | apply below_alloc | apply pw_below_drewN | apply below_drew1 | refine below_set ?_ GE467.out | refine below_set ?_ GE483.out | refine below_set ?_ GE489.out | refine below_set ?_ GE499.out | refine below_set ?_ GE533.out) | exact HB.out)⟩
                                  · rw [if_neg c176] at H
                                    have c176b0 : (t535 == t516) = false := beq_eq_false_iff_ne.mpr c176
                                    have c176b1 : (t535 != t516) = true := bne_iff_ne.mpr c176
                                    obtain rfl := Option.some.inj H
                                    have hnb183 := NB499_467.out
                                    have hnc183 := NB467_499.out
                                    have hnb184 := NB499_483.out
                                    have hnc184 := NB483_499.out
                                    have hnb185 := NB499_489.out
                                    have hnc185 := NB489_499.out
                                    have hnb186 := NB499_533.out
                                    have hnc186 := NB533_499.out
                                    have hcz187_0 : wc.cell? ⟨gb499, 0, none⟩ = some (.int .i64 t493) := (blk_cell BK499.out 0).trans rfl
                                    have hcz187_1 : wc.cell? ⟨gb499, 1, none⟩ = some (.int .i64 t494) := (blk_cell BK499.out 1).trans rfl
                                    have hcz187_2 : wc.cell? ⟨gb499, 2, none⟩ = some (.slice Ao47 t517.length co47) := (blk_cell BK499.out 2).trans rfl
                                    have hfz187_0 := blk_frozen BK499.out 0
                                    have hfz187_1 := blk_frozen BK499.out 1
                                    have hfz187_2 := blk_frozen BK499.out 2
                                    go_wp2_with (first | ((with_reducible refine gate_callee (f := 17) rfl ?_); refine goesL_ (some 116) rfl rfl Try.func17 (by kernel_rfl) rfl #[.agg #[.int .i64 t493, .int .i64 t494, .slice Ao47 t517.length co47], .int .i64 1] rfl (by (try simp only [List.map_toArray, List.map_cons, List.map_nil]); first | done | rfl | (simp only [List.length_drop, List.length_take]; rfl)) ?_; (with_reducible refine (laws_heldBoard.calls kj121 t493 t494 _ _ t517 1 t535 _ ?side1 ?side2 A168.out).mono ?_); (case side1 => repeat (first | exact (Kd.R_reads' HO_500002.out).2.2 | (with_reducible refine Kd.C_alloc ?_ _) | (with_reducible refine Kd.C_drewN ?_ _) | (with_reducible refine Kd.C_drew ?_))); (case side2 => exact (Kd.R_reads' HO_500002.out).2.1); rintro e w188 ⟨rfl, hb⟩; refine ⟨_, rfl, ?_⟩; have n0_ := Aside0.mk (Kd.R_below (by (with_reducible repeat (first | apply Kd.R_alloc | apply Kd.R_drewN | apply Kd.R_drew)); exact HO_484002.out) hb); have n1_ := Aside0.mk (Kd.R_below (by (with_reducible repeat (first | apply Kd.R_alloc | apply Kd.R_drewN | apply Kd.R_drew)); exact HO_490002.out) hb); have n2_ := Aside0.mk (Kd.R_below (by (with_reducible repeat (first | apply Kd.R_alloc | apply Kd.R_drewN | apply Kd.R_drew)); exact HO_500002.out) hb); have n3_ := Aside0.mk (Kd.R_below (by (with_reducible repeat (first | apply Kd.R_alloc | apply Kd.R_drewN | apply Kd.R_drew)); exact HO_534002.out) hb); have n4_ := Aside0.mk (blk_below (g := gb467) (o := .cells #[.int .i64 a0_0, .int .i64 a0_1, .slice A0_2 l0_2.length c0_2] 32 (0, 0)) (by (with_reducible repeat (first | refine blk_drewN ?_ _ | refine blk_drew ?_ | refine blk_alloc ?_ _)); exact BK467.out) hb); have n5_ := Aside0.mk (blk_below (g := gb483) (o := .cells #[.int .i64 t477, .int .i64 t478, .slice Ao30 t479.length co30] 24 (0, 0)) (by (with_reducible repeat (first | refine blk_drewN ?_ _ | refine blk_drew ?_ | refine blk_alloc ?_ _)); exact BK483.out) hb); have n6_ := Aside0.mk (blk_below (g := gb489) (o := .cells #[.int .i64 t484, .int .i64 t485, .slice Ao37 t512.length co37] 24 (0, 0)) (by (with_reducible repeat (first | refine blk_drewN ?_ _ | refine blk_drew ?_ | refine blk_alloc ?_ _)); exact BK489.out) hb); have n7_ := Aside0.mk (blk_below (g := gb499) (o := .cells #[.int .i64 t493, .int .i64 t494, .slice Ao47 t517.length co47] 24 (0, 0)) (by (with_reducible repeat (first | refine blk_drewN ?_ _ | refine blk_drew ?_ | refine blk_alloc ?_ _)); exact BK499.out) hb); have n8_ := Aside0.mk (blk_below (g := gb533) (o := .cells #[.int .i64 t527, .int .i64 t528, .slice Ao144 t529.length co144] 24 (0, 0)) (by (with_reducible repeat (first | refine blk_drewN ?_ _ | refine blk_drew ?_ | refine blk_alloc ?_ _)); exact BK533.out) hb); have n9_ := Aside0.mk (below_step (by repeat (first | (with_reducible first | exact HB.out | apply below_alloc | apply pw_below_drewN | apply below_drew1 | refine below_set ?_ GE467.out | refine below_set ?_ GE483.out | refine below_set ?_ GE489.out | refine below_set ?_ GE499.out | refine below_set ?_ GE533.out) | exact HB.out)) hb); clear HO_484002; clear HO_490002; clear HO_500002; clear HO_534002; clear BK467; clear BK483; clear BK489; clear BK499; clear BK533; clear HB; have HO_484002 := n0_; have HO_490002 := n1_; have HO_500002 := n2_; have HO_534002 := n3_; have BK467 := n4_; have BK483 := n5_; have BK489 := n6_; have BK499 := n7_; have BK533 := n8_; have HB := n9_; clear n0_ n1_ n2_ n3_ n4_ n5_ n6_ n7_ n8_ n9_; (try clear hb); (try clear hb2); (try clear hk); (try clear hi)))
                                    go_ret
                                    exact ⟨by first | rfl | (simp [errW_none, errW_some] <;> rfl) | (simp [*, errW_none, errW_some] <;> rfl), by repeat (first | (with_reducible first | exact HB.out | apply below_alloc | apply pw_below_drewN | apply below_drew1 | refine below_set ?_ GE467.out | refine below_set ?_ GE483.out | refine below_set ?_ GE489.out | refine below_set ?_ GE499.out | refine below_set ?_ GE533.out) | exact HB.out)⟩
                        · rw [if_neg c118] at H
                          have c118b0 : (t518 == t516) = false := beq_eq_false_iff_ne.mpr c118
                          have c118b1 : (t518 != t516) = true := bne_iff_ne.mpr c118
                          obtain rfl := Option.some.inj H
                          have hnb189 := NB499_467.out
                          have hnc189 := NB467_499.out
                          have hnb190 := NB499_483.out
                          have hnc190 := NB483_499.out
                          have hnb191 := NB499_489.out
                          have hnc191 := NB489_499.out
                          have hcz192_0 : wc.cell? ⟨gb499, 0, none⟩ = some (.int .i64 t493) := (blk_cell BK499.out 0).trans rfl
                          have hcz192_1 : wc.cell? ⟨gb499, 1, none⟩ = some (.int .i64 t494) := (blk_cell BK499.out 1).trans rfl
                          have hcz192_2 : wc.cell? ⟨gb499, 2, none⟩ = some (.slice Ao47 t495.length co47) := (blk_cell BK499.out 2).trans rfl
                          have hfz192_0 := blk_frozen BK499.out 0
                          have hfz192_1 := blk_frozen BK499.out 1
                          have hfz192_2 := blk_frozen BK499.out 2
                          go_wp2_with (first | ((with_reducible refine gate_callee (f := 16) rfl ?_); refine goesL_ (some 87) rfl rfl Try.func16 (by kernel_rfl) rfl #[.agg #[.int .i64 t493, .int .i64 t494, .slice Ao47 t495.length co47], .int .i64 1] rfl (by (try simp only [List.map_toArray, List.map_cons, List.map_nil]); first | done | rfl | (simp only [List.length_drop, List.length_take]; rfl)) ?_; (with_reducible refine (laws_markBoard.calls kj74 t493 t494 (fun k_ => some k_ = (.slice Ao47 t495.length co47 : Value).ownBlock) (.slice Ao47 t495.length co47) t495 1 t516 t517 w _ ?side1 ?side2 A108.out).mono ?_); (case side1 => repeat (first | (with_reducible first | exact HB.out | apply below_alloc | apply pw_below_drewN | apply below_drew1 | refine below_set ?_ GE467.out | refine below_set ?_ GE483.out | refine below_set ?_ GE489.out | refine below_set ?_ GE499.out) | exact HB.out)); (case side2 => exact Kd.R_tight rfl HO_500002.out); rintro e w193 ⟨rfl, hy0, hb, hkp⟩; refine ⟨_, rfl, ?_⟩; have n0_ := Aside0.mk (Kd.R_mono (ok' := fun k_ => some k_ ≠ (.slice Ao37 t512.length co37 : Value).ownBlock ∧ some k_ ≠ (.slice Ao47 t495.length co47 : Value).ownBlock) (Kd.R_keptB (HO_484002.out) hkp (fun k_ hk_ hs_ => (hk_.2) hs_)) (fun k_ hk_ => ⟨hk_.1.1, hk_.1.2⟩)); have n1_ := Aside0.mk (Kd.R_mono (ok' := fun k_ => some k_ ≠ (.slice Ao30 t479.length co30 : Value).ownBlock ∧ some k_ ≠ (.slice Ao47 t495.length co47 : Value).ownBlock) (Kd.R_keptB (HO_490002.out) hkp (fun k_ hk_ hs_ => (hk_.2) hs_)) (fun k_ hk_ => ⟨hk_.1.1, hk_.1.2⟩)); have n2_ := Aside0.mk (Kd.R_reok rfl hy0 (fun k_ e_ => HO_500002.out.1 k_ e_)); have n3_ := Aside0.mk (blk_kept (by (with_reducible repeat (first | refine blk_drewN ?_ _ | refine blk_drew ?_ | refine blk_alloc ?_ _)); exact BK467.out) hkp (fun hs_ => (fun e_ => (Kd.R_ne HO_500002.out BK467.out (by decide)) e_) hs_)); have n4_ := Aside0.mk (blk_kept (by (with_reducible repeat (first | refine blk_drewN ?_ _ | refine blk_drew ?_ | refine blk_alloc ?_ _)); exact BK483.out) hkp (fun hs_ => (fun e_ => (Kd.R_ne HO_500002.out BK483.out (by decide)) e_) hs_)); have n5_ := Aside0.mk (blk_kept (by (with_reducible repeat (first | refine blk_drewN ?_ _ | refine blk_drew ?_ | refine blk_alloc ?_ _)); exact BK489.out) hkp (fun hs_ => (fun e_ => (Kd.R_ne HO_500002.out BK489.out (by decide)) e_) hs_)); have n6_ := Aside0.mk (blk_kept (by (with_reducible repeat (first | refine blk_drewN ?_ _ | refine blk_drew ?_ | refine blk_alloc ?_ _)); exact BK499.out) hkp (fun hs_ => (fun e_ => (Kd.R_ne HO_500002.out BK499.out (by decide)) e_) hs_)); have n7_ := Aside0.mk (hb); clear HO_484002; clear HO_490002; clear HO_500002; clear BK467; clear BK483; clear BK489; clear BK499; clear HB; have HO_484002 := n0_; have HO_490002 := n1_; have HO_500002 := n2_; have BK467 := n3_; have BK483 := n4_; have BK489 := n5_; have BK499 := n6_; have HB := n7_; clear n0_ n1_ n2_ n3_ n4_ n5_ n6_ n7_; (try clear hb); (try clear hkp); (try clear hy0); have hcz194_0 : w193.cell? ⟨gb499, 0, none⟩ = some (.int .i64 t493) := (blk_cell BK499.out 0).trans rfl; have hcz194_1 : w193.cell? ⟨gb499, 1, none⟩ = some (.int .i64 t494) := (blk_cell BK499.out 1).trans rfl; have hcz194_2 : w193.cell? ⟨gb499, 2, none⟩ = some (.slice Ao47 t495.length co47) := (blk_cell BK499.out 2).trans rfl; have hfz194_0 := blk_frozen BK499.out 0; have hfz194_1 := blk_frozen BK499.out 1; have hfz194_2 := blk_frozen BK499.out 2) | ((with_reducible refine gate_callee (f := 17) rfl ?_); refine goesL_ (some 90) rfl rfl Try.func17 (by kernel_rfl) rfl #[.agg #[.int .i64 t493, .int .i64 t494, .slice Ao47 t517.length co47], .int .i64 1] rfl (by (try simp only [List.map_toArray, List.map_cons, List.map_nil]); first | done | (rw [show t517.length = t495.length from (Kd.R_reads' HO_500002.out).1.symm] <;> rfl) | rfl | (simp only [List.length_drop, List.length_take]; rfl)) ?_; (with_reducible refine (laws_heldBoard.calls kj74 t493 t494 _ _ t517 1 t518 _ ?side1 ?side2 A109.out).mono ?_); (case side1 => repeat (first | exact (Kd.R_reads' HO_500002.out).2.2 | (with_reducible refine Kd.C_alloc ?_ _) | (with_reducible refine Kd.C_drewN ?_ _) | (with_reducible refine Kd.C_drew ?_))); (case side2 => rw [show t517.length = t495.length from (Kd.R_reads' HO_500002.out).1.symm]; exact (Kd.R_reads' HO_500002.out).2.1); rintro e w195 ⟨rfl, hb⟩; refine ⟨_, rfl, ?_⟩; have n0_ := Aside0.mk (Kd.R_below (by (with_reducible repeat (first | apply Kd.R_alloc | apply Kd.R_drewN | apply Kd.R_drew)); exact HO_484002.out) hb); have n1_ := Aside0.mk (Kd.R_below (by (with_reducible repeat (first | apply Kd.R_alloc | apply Kd.R_drewN | apply Kd.R_drew)); exact HO_490002.out) hb); have n2_ := Aside0.mk (Kd.R_below (by (with_reducible repeat (first | apply Kd.R_alloc | apply Kd.R_drewN | apply Kd.R_drew)); exact HO_500002.out) hb); have n3_ := Aside0.mk (blk_below (g := gb467) (o := .cells #[.int .i64 a0_0, .int .i64 a0_1, .slice A0_2 l0_2.length c0_2] 32 (0, 0)) (by (with_reducible repeat (first | refine blk_drewN ?_ _ | refine blk_drew ?_ | refine blk_alloc ?_ _)); exact BK467.out) hb); have n4_ := Aside0.mk (blk_below (g := gb483) (o := .cells #[.int .i64 t477, .int .i64 t478, .slice Ao30 t479.length co30] 24 (0, 0)) (by (with_reducible repeat (first | refine blk_drewN ?_ _ | refine blk_drew ?_ | refine blk_alloc ?_ _)); exact BK483.out) hb); have n5_ := Aside0.mk (blk_below (g := gb489) (o := .cells #[.int .i64 t484, .int .i64 t485, .slice Ao37 t512.length co37] 24 (0, 0)) (by (with_reducible repeat (first | refine blk_drewN ?_ _ | refine blk_drew ?_ | refine blk_alloc ?_ _)); exact BK489.out) hb); have n6_ := Aside0.mk (blk_below (g := gb499) (o := .cells #[.int .i64 t493, .int .i64 t494, .slice Ao47 t495.length co47] 24 (0, 0)) (by (with_reducible repeat (first | refine blk_drewN ?_ _ | refine blk_drew ?_ | refine blk_alloc ?_ _)); exact BK499.out) hb); have n7_ := Aside0.mk (below_step (by repeat (first | (with_reducible first | exact HB.out | apply below_alloc | apply pw_below_drewN | apply below_drew1 | refine below_set ?_ GE467.out | refine below_set ?_ GE483.out | refine below_set ?_ GE489.out | refine below_set ?_ GE499.out) | exact HB.out)) hb); clear HO_484002; clear HO_490002; clear HO_500002; clear BK467; clear BK483; clear BK489; clear BK499; clear HB; have HO_484002 := n0_; have HO_490002 := n1_; have HO_500002 := n2_; have BK467 := n3_; have BK483 := n4_; have BK489 := n5_; have BK499 := n6_; have HB := n7_; clear n0_ n1_ n2_ n3_ n4_ n5_ n6_ n7_; (try clear hb); (try clear hb2); (try clear hk); (try clear hi)))
                          go_ret
                          exact ⟨by first | rfl | (simp [errW_none, errW_some] <;> rfl) | (simp [*, errW_none, errW_some] <;> rfl), by repeat (first | (with_reducible first | exact HB.out | apply below_alloc | apply pw_below_drewN | apply below_drew1 | refine below_set ?_ GE467.out | refine below_set ?_ GE483.out | refine below_set ?_ GE489.out | refine below_set ?_ GE499.out) | exact HB.out)⟩
              · replace c72 := Bool.eq_false_iff.mpr c72
                subst c72
                have H1 : (some false) = some r := by rw [if_neg (show ¬ (false = true) by decide)] at H; exact H
                clear H
                have H := H1
                clear H1
                obtain rfl := Option.some.inj H
                try go_wp2
                have n0_ := Aside0.mk (Kd.R_drew HO_11.out)
                have n1_ := Aside0.mk (Kd.R_drew HO_484002.out)
                have n2_ := Aside0.mk (Kd.R_drew HO_490002.out)
                have n3_ := Aside0.mk (Kd.R_drew HO_500002.out)
                have n4_ := Aside0.mk (blk_drew BK467.out)
                have n5_ := Aside0.mk (blk_drew BK483.out)
                have n6_ := Aside0.mk (blk_drew BK489.out)
                have n7_ := Aside0.mk (blk_drew BK499.out)
                have n8_ := Aside0.mk (below_drew1 HB.out)
                clear HO_11
                clear HO_484002
                clear HO_490002
                clear HO_500002
                clear BK467
                clear BK483
                clear BK489
                clear BK499
                clear HB
                have HO_11 := n0_
                have HO_484002 := n1_
                have HO_490002 := n2_
                have HO_500002 := n3_
                have BK467 := n4_
                have BK483 := n5_
                have BK489 := n6_
                have BK499 := n7_
                have HB := n8_
                clear n0_ n1_ n2_ n3_ n4_ n5_ n6_ n7_ n8_
                refine start_ (n := 5) (S := fun w' => w'.cell? ⟨gb489, 0, none⟩ = some (.int .i64 t484) ∧ w'.cell? ⟨gb489, 1, none⟩ = some (.int .i64 t485) ∧ w'.cell? ⟨gb489, 2, none⟩ = some (.slice Ao37 t486.length co37) ∧ w'.cell? ⟨gb467, 0, none⟩ = some (.int .i64 a0_0) ∧ w'.cell? ⟨gb467, 1, none⟩ = some (.int .i64 a0_1) ∧ w'.cell? ⟨gb467, 2, none⟩ = some (.slice A0_2 l0_2.length c0_2)) (ds := []) #[false, false, false, false, false] (by kernel_rfl) rfl rfl ⟨(blk_cell BK489.out 0).trans rfl, (blk_cell BK489.out 1).trans rfl, (blk_cell BK489.out 2).trans rfl, (blk_cell BK467.out 0).trans rfl, (blk_cell BK467.out 1).trans rfl, (blk_cell BK467.out 2).trans rfl⟩ (fun hHeld => ?_)
                generalize wc.drew = w196 at HO_11 HO_484002 HO_490002 HO_500002 BK467 BK483 BK489 BK499 HB hHeld ⊢
                refine take_ (i := 0) (N := some 56) (v := ?_) (a' := ?_) #[true, false, false, false, false] rfl rfl (by kernel_rfl) (fun _ _ _ h => h) (Or.inl ⟨by rfl, ?_⟩) hHeld ?_ ?_
                rotate_left
                · rintro w' ⟨s0, s1, s2, s3, s4, s5⟩
                  go_simp
                  with_reducible rfl
                rotate_left
                · simp only [Act.put, List.setIfInBounds_toArray, List.set_cons_zero, List.set_cons_succ, i64_w, i32_w]
                  rfl
                refine take_ (i := 1) (N := some 57) (v := ?_) (a' := ?_) #[true, true, false, false, false] rfl rfl (by kernel_rfl) (fun _ _ _ h => h) (Or.inl ⟨by rfl, ?_⟩) hHeld ?_ ?_
                rotate_left
                · rintro w' ⟨s0, s1, s2, s3, s4, s5⟩
                  go_simp
                  with_reducible rfl
                rotate_left
                · simp only [Act.put, List.setIfInBounds_toArray, List.set_cons_zero, List.set_cons_succ, i64_w, i32_w]
                  rfl
                refine one_ (i := 2) (N := some 58) #[true, true, true, false, false] rfl rfl (by kernel_rfl) (by decide) (fun K hK => ?_)
                refine goes_ Try.func20 (by kernel_rfl) rfl #[.agg #[.int .i64 a0_0, .int .i64 a0_1, .slice A0_2 l0_2.length c0_2]] (by rfl) rfl rfl (by (try simp only [List.map_toArray, List.map_cons, List.map_nil]); first | done | rfl | (simp only [List.length_drop, List.length_take]; rfl)) ?_
                with_reducible refine (laws_toBoard.calls kj16 a0_0 a0_1 _ _ l0_2 t501 t502 t503 _ ?side1 ?side2 A67.out).mono ?_
                (case side1 => repeat (first | exact (Kd.C_below HR0_2.out HB.out) | (with_reducible refine Kd.C_alloc ?_ _) | (with_reducible refine Kd.C_drewN ?_ _) | (with_reducible refine Kd.C_drew ?_)))
                (case side2 => exact HC0_2.out)
                rintro e w197 ⟨v504, rfl, ho0, hb⟩
                refine ⟨_, rfl, ?_⟩
                have n0_ := Aside0.mk (Kd.R_below (by (with_reducible repeat (first | apply Kd.R_alloc | apply Kd.R_drewN | apply Kd.R_drew)); exact HO_11.out) hb)
                have n1_ := Aside0.mk (Kd.R_elder' (by (with_reducible repeat (first | apply Kd.R_alloc | apply Kd.R_drewN | apply Kd.R_drew)); exact HO_484002.out) (Kd.R_base ho0) hb)
                have n2_ := Aside0.mk (Kd.R_elder' (by (with_reducible repeat (first | apply Kd.R_alloc | apply Kd.R_drewN | apply Kd.R_drew)); exact HO_490002.out) (Kd.R_base ho0) hb)
                have n3_ := Aside0.mk (Kd.R_elder' (by (with_reducible repeat (first | apply Kd.R_alloc | apply Kd.R_drewN | apply Kd.R_drew)); exact HO_500002.out) (Kd.R_base ho0) hb)
                have n4_ := Aside0.mk (Kd.R_lower (Kd.R_new' (Kd.R_new' (Kd.R_new' ho0 (Kd.R_lt (by (with_reducible repeat (first | apply Kd.R_alloc | apply Kd.R_drewN | apply Kd.R_drew)); exact HO_484002.out))) (Kd.R_lt (by (with_reducible repeat (first | apply Kd.R_alloc | apply Kd.R_drewN | apply Kd.R_drew)); exact HO_490002.out))) (Kd.R_lt (by (with_reducible repeat (first | apply Kd.R_alloc | apply Kd.R_drewN | apply Kd.R_drew)); exact HO_500002.out))) (below_size (by repeat (first | (with_reducible first | exact HB.out | apply below_alloc | apply pw_below_drewN | apply below_drew1 | refine below_set ?_ GE467.out | refine below_set ?_ GE483.out | refine below_set ?_ GE489.out | refine below_set ?_ GE499.out) | exact HB.out))))
                have n5_ := Aside0.mk (blk_below (g := gb467) (o := .cells #[.int .i64 a0_0, .int .i64 a0_1, .slice A0_2 l0_2.length c0_2] 32 (0, 0)) (by (with_reducible repeat (first | refine blk_drewN ?_ _ | refine blk_drew ?_ | refine blk_alloc ?_ _)); exact BK467.out) hb)
                have n6_ := Aside0.mk (blk_below (g := gb483) (o := .cells #[.int .i64 t477, .int .i64 t478, .slice Ao30 t479.length co30] 24 (0, 0)) (by (with_reducible repeat (first | refine blk_drewN ?_ _ | refine blk_drew ?_ | refine blk_alloc ?_ _)); exact BK483.out) hb)
                have n7_ := Aside0.mk (blk_below (g := gb489) (o := .cells #[.int .i64 t484, .int .i64 t485, .slice Ao37 t486.length co37] 24 (0, 0)) (by (with_reducible repeat (first | refine blk_drewN ?_ _ | refine blk_drew ?_ | refine blk_alloc ?_ _)); exact BK489.out) hb)
                have n8_ := Aside0.mk (blk_below (g := gb499) (o := .cells #[.int .i64 t493, .int .i64 t494, .slice Ao47 t495.length co47] 24 (0, 0)) (by (with_reducible repeat (first | refine blk_drewN ?_ _ | refine blk_drew ?_ | refine blk_alloc ?_ _)); exact BK499.out) hb)
                have n9_ := Aside0.mk (below_step (by repeat (first | (with_reducible first | exact HB.out | apply below_alloc | apply pw_below_drewN | apply below_drew1 | refine below_set ?_ GE467.out | refine below_set ?_ GE483.out | refine below_set ?_ GE489.out | refine below_set ?_ GE499.out) | exact HB.out)) hb)
                clear HO_11
                clear HO_484002
                clear HO_490002
                clear HO_500002
                clear BK467
                clear BK483
                clear BK489
                clear BK499
                clear HB
                have HO_11 := n0_
                have HO_484002 := n1_
                have HO_490002 := n2_
                have HO_500002 := n3_
                have HO505 := n4_
                have BK467 := n5_
                have BK483 := n6_
                have BK489 := n7_
                have BK499 := n8_
                have HB := n9_
                clear n0_ n1_ n2_ n3_ n4_ n5_ n6_ n7_ n8_ n9_
                (try clear hb)
                (try clear hb2)
                (try clear hk)
                (try clear hi)
                (try clear ho0)
                obtain ⟨Ao198, co198, eo198⟩ := Kd.R_slice HO505.out
                (first | subst eo198 | (injection eo198 with f1_ f2_ f3_; have f4_ := f1_.symm; have f5_ := f3_.symm; clear f1_ f2_ f3_; subst f4_; subst f5_))
                refine hK.out _ _ ⟨(blk_cell BK489.out 0).trans rfl, (blk_cell BK489.out 1).trans rfl, (blk_cell BK489.out 2).trans rfl, (blk_cell BK467.out 0).trans rfl, (blk_cell BK467.out 1).trans rfl, (blk_cell BK467.out 2).trans rfl⟩ (fun hHeld => ?_)
                clear hK K
                refine norm_ (a' := ?_) ?_ ?_
                rotate_left
                · show Act.put _ (some 58) _ = _
                  simp only [Act.put, List.setIfInBounds_toArray, List.set_cons_zero, List.set_cons_succ, i64_w, i32_w]
                  rfl
                refine one_ (i := 3) (N := some 59) #[true, true, true, true, false] rfl rfl (by kernel_rfl) (by decide) (fun K hK => ?_)
                refine goes_ Try.func15 (by kernel_rfl) rfl #[.agg #[.int .i64 t484, .int .i64 t485, .slice Ao37 t486.length co37], .agg #[.int .i64 t501, .int .i64 t502, .slice Ao198 t503.length co198]] (by rfl) rfl rfl (by (try simp only [List.map_toArray, List.map_cons, List.map_nil]); first | done | rfl | (simp only [List.length_drop, List.length_take]; rfl)) ?_
                with_reducible refine (laws_eqBoard.calls kj16 t484 t485 _ _ t486 t501 t502 _ _ t503 true _ ?side1 ?side2 ?side3 ?side4 A68.out).mono ?_
                (case side1 => repeat (first | exact (Kd.R_reads' HO_490002.out).2.2 | (with_reducible refine Kd.C_alloc ?_ _) | (with_reducible refine Kd.C_drewN ?_ _) | (with_reducible refine Kd.C_drew ?_)))
                (case side2 => exact (Kd.R_reads' HO_490002.out).2.1)
                (case side3 => repeat (first | exact (Kd.R_reads' HO505.out).2.2 | (with_reducible refine Kd.C_alloc ?_ _) | (with_reducible refine Kd.C_drewN ?_ _) | (with_reducible refine Kd.C_drew ?_)))
                (case side4 => exact (Kd.R_reads' HO505.out).2.1)
                rintro e w199 ⟨rfl, hb⟩
                refine ⟨_, rfl, ?_⟩
                have n0_ := Aside0.mk (Kd.R_below (by (with_reducible repeat (first | apply Kd.R_alloc | apply Kd.R_drewN | apply Kd.R_drew)); exact HO_11.out) hb)
                have n1_ := Aside0.mk (Kd.R_below (by (with_reducible repeat (first | apply Kd.R_alloc | apply Kd.R_drewN | apply Kd.R_drew)); exact HO_484002.out) hb)
                have n2_ := Aside0.mk (Kd.R_below (by (with_reducible repeat (first | apply Kd.R_alloc | apply Kd.R_drewN | apply Kd.R_drew)); exact HO_490002.out) hb)
                have n3_ := Aside0.mk (Kd.R_below (by (with_reducible repeat (first | apply Kd.R_alloc | apply Kd.R_drewN | apply Kd.R_drew)); exact HO_500002.out) hb)
                have n4_ := Aside0.mk (Kd.R_below (by (with_reducible repeat (first | apply Kd.R_alloc | apply Kd.R_drewN | apply Kd.R_drew)); exact HO505.out) hb)
                have n5_ := Aside0.mk (blk_below (g := gb467) (o := .cells #[.int .i64 a0_0, .int .i64 a0_1, .slice A0_2 l0_2.length c0_2] 32 (0, 0)) (by (with_reducible repeat (first | refine blk_drewN ?_ _ | refine blk_drew ?_ | refine blk_alloc ?_ _)); exact BK467.out) hb)
                have n6_ := Aside0.mk (blk_below (g := gb483) (o := .cells #[.int .i64 t477, .int .i64 t478, .slice Ao30 t479.length co30] 24 (0, 0)) (by (with_reducible repeat (first | refine blk_drewN ?_ _ | refine blk_drew ?_ | refine blk_alloc ?_ _)); exact BK483.out) hb)
                have n7_ := Aside0.mk (blk_below (g := gb489) (o := .cells #[.int .i64 t484, .int .i64 t485, .slice Ao37 t486.length co37] 24 (0, 0)) (by (with_reducible repeat (first | refine blk_drewN ?_ _ | refine blk_drew ?_ | refine blk_alloc ?_ _)); exact BK489.out) hb)
                have n8_ := Aside0.mk (blk_below (g := gb499) (o := .cells #[.int .i64 t493, .int .i64 t494, .slice Ao47 t495.length co47] 24 (0, 0)) (by (with_reducible repeat (first | refine blk_drewN ?_ _ | refine blk_drew ?_ | refine blk_alloc ?_ _)); exact BK499.out) hb)
                have n9_ := Aside0.mk (below_step (by repeat (first | (with_reducible first | exact HB.out | apply below_alloc | apply pw_below_drewN | apply below_drew1 | refine below_set ?_ GE467.out | refine below_set ?_ GE483.out | refine below_set ?_ GE489.out | refine below_set ?_ GE499.out) | exact HB.out)) hb)
                clear HO_11
                clear HO_484002
                clear HO_490002
                clear HO_500002
                clear HO505
                clear BK467
                clear BK483
                clear BK489
                clear BK499
                clear HB
                have HO_11 := n0_
                have HO_484002 := n1_
                have HO_490002 := n2_
                have HO_500002 := n3_
                have HO505 := n4_
                have BK467 := n5_
                have BK483 := n6_
                have BK489 := n7_
                have BK499 := n8_
                have HB := n9_
                clear n0_ n1_ n2_ n3_ n4_ n5_ n6_ n7_ n8_ n9_
                (try clear hb)
                (try clear hb2)
                (try clear hk)
                (try clear hi)
                refine hK.out _ _ ⟨(blk_cell BK489.out 0).trans rfl, (blk_cell BK489.out 1).trans rfl, (blk_cell BK489.out 2).trans rfl, (blk_cell BK467.out 0).trans rfl, (blk_cell BK467.out 1).trans rfl, (blk_cell BK467.out 2).trans rfl⟩ (fun hHeld => ?_)
                clear hK K
                refine norm_ (a' := ?_) ?_ ?_
                rotate_left
                · show Act.put _ (some 59) _ = _
                  simp only [Act.put, List.setIfInBounds_toArray, List.set_cons_zero, List.set_cons_succ, i64_w, i32_w]
                  rfl
                refine pure_ (i := 4) (N := some 60) (v := ?_) (a' := ?_) #[true, true, true, true, true] rfl rfl (by kernel_rfl) (fun _ _ _ h => h) (Or.inl ⟨by rfl, ?_⟩) ?_ ?_
                rotate_left
                · intro w'
                  go_simp
                  with_reducible rfl
                rotate_left
                · simp only [Act.put, List.setIfInBounds_toArray, List.set_cons_zero, List.set_cons_succ, i64_w, i32_w]
                  rfl
                refine done_ (by kernel_rfl) ?_
                try go_wp2_with (first | ((with_reducible refine gate_callee (f := 25) rfl ?_); refine goesL_ (some 63) rfl rfl Try.func25 (by kernel_rfl) rfl #[.slice A1 l1.length c1] rfl (by (try simp only [List.map_toArray, List.map_cons, List.map_nil]); first | done | rfl | (simp only [List.length_drop, List.length_take]; rfl)) ?_; (with_reducible refine (laws_toIntS.calls kj16 _ _ l1 t507 _ ?side1 ?side2 A70.out).mono ?_); (case side1 => repeat (first | exact (Kd.C_below HR1.out HB.out) | (with_reducible refine Kd.C_alloc ?_ _) | (with_reducible refine Kd.C_drewN ?_ _) | (with_reducible refine Kd.C_drew ?_))); (case side2 => exact HC1.out); rintro e w200 ⟨v508, rfl, ho0, hb⟩; refine ⟨_, rfl, ?_⟩; have n0_ := Aside0.mk (Kd.R_elder' (by (with_reducible repeat (first | apply Kd.R_alloc | apply Kd.R_drewN | apply Kd.R_drew)); exact HO_11.out) (Kd.R_base ho0) hb); have n1_ := Aside0.mk (Kd.R_below (by (with_reducible repeat (first | apply Kd.R_alloc | apply Kd.R_drewN | apply Kd.R_drew)); exact HO_484002.out) hb); have n2_ := Aside0.mk (Kd.R_below (by (with_reducible repeat (first | apply Kd.R_alloc | apply Kd.R_drewN | apply Kd.R_drew)); exact HO_490002.out) hb); have n3_ := Aside0.mk (Kd.R_below (by (with_reducible repeat (first | apply Kd.R_alloc | apply Kd.R_drewN | apply Kd.R_drew)); exact HO_500002.out) hb); have n4_ := Aside0.mk (Kd.R_below (by (with_reducible repeat (first | apply Kd.R_alloc | apply Kd.R_drewN | apply Kd.R_drew)); exact HO505.out) hb); have n5_ := Aside0.mk (Kd.R_lower (Kd.R_new' ho0 (Kd.R_lt (by (with_reducible repeat (first | apply Kd.R_alloc | apply Kd.R_drewN | apply Kd.R_drew)); exact HO_11.out))) (below_size (by repeat (first | (with_reducible first | exact HB.out | apply below_alloc | apply pw_below_drewN | apply below_drew1 | refine below_set ?_ GE467.out | refine below_set ?_ GE483.out | refine below_set ?_ GE489.out | refine below_set ?_ GE499.out) | exact HB.out)))); have n6_ := Aside0.mk (blk_below (g := gb467) (o := .cells #[.int .i64 a0_0, .int .i64 a0_1, .slice A0_2 l0_2.length c0_2] 32 (0, 0)) (by (with_reducible repeat (first | refine blk_drewN ?_ _ | refine blk_drew ?_ | refine blk_alloc ?_ _)); exact BK467.out) hb); have n7_ := Aside0.mk (blk_below (g := gb483) (o := .cells #[.int .i64 t477, .int .i64 t478, .slice Ao30 t479.length co30] 24 (0, 0)) (by (with_reducible repeat (first | refine blk_drewN ?_ _ | refine blk_drew ?_ | refine blk_alloc ?_ _)); exact BK483.out) hb); have n8_ := Aside0.mk (blk_below (g := gb489) (o := .cells #[.int .i64 t484, .int .i64 t485, .slice Ao37 t486.length co37] 24 (0, 0)) (by (with_reducible repeat (first | refine blk_drewN ?_ _ | refine blk_drew ?_ | refine blk_alloc ?_ _)); exact BK489.out) hb); have n9_ := Aside0.mk (blk_below (g := gb499) (o := .cells #[.int .i64 t493, .int .i64 t494, .slice Ao47 t495.length co47] 24 (0, 0)) (by (with_reducible repeat (first | refine blk_drewN ?_ _ | refine blk_drew ?_ | refine blk_alloc ?_ _)); exact BK499.out) hb); have n10_ := Aside0.mk (below_step (by repeat (first | (with_reducible first | exact HB.out | apply below_alloc | apply pw_below_drewN | apply below_drew1 | refine below_set ?_ GE467.out | refine below_set ?_ GE483.out | refine below_set ?_ GE489.out | refine below_set ?_ GE499.out) | exact HB.out)) hb); clear HO_11; clear HO_484002; clear HO_490002; clear HO_500002; clear HO505; clear BK467; clear BK483; clear BK489; clear BK499; clear HB; have HO_11 := n0_; have HO_484002 := n1_; have HO_490002 := n2_; have HO_500002 := n3_; have HO505 := n4_; have HO509 := n5_; have BK467 := n6_; have BK483 := n7_; have BK489 := n8_; have BK499 := n9_; have HB := n10_; clear n0_ n1_ n2_ n3_ n4_ n5_ n6_ n7_ n8_ n9_ n10_; (try clear hb); (try clear hb2); (try clear hk); (try clear hi); (try clear ho0); obtain ⟨Ao201, co201, eo201⟩ := Kd.R_slice HO509.out; subst eo201) | ((with_reducible refine gate_callee (f := 27) rfl ?_); refine goesL_ (some 64) rfl rfl Try.func27 (by kernel_rfl) rfl #[.slice Ao40 t490.length co40, .slice Ao201 t507.length co201] rfl (by (try simp only [List.map_toArray, List.map_cons, List.map_nil]); first | done | rfl | (simp only [List.length_drop, List.length_take]; rfl)) ?_; (with_reducible refine (laws_eqIntS.calls kj16 _ _ t490 _ _ t507 false _ ?side1 ?side2 ?side3 ?side4 A71.out).mono ?_); (case side1 => repeat (first | exact (Kd.R_reads' HO_11.out).2.2 | (with_reducible refine Kd.C_alloc ?_ _) | (with_reducible refine Kd.C_drewN ?_ _) | (with_reducible refine Kd.C_drew ?_))); (case side2 => exact (Kd.R_reads' HO_11.out).2.1); (case side3 => repeat (first | exact (Kd.R_reads' HO509.out).2.2 | (with_reducible refine Kd.C_alloc ?_ _) | (with_reducible refine Kd.C_drewN ?_ _) | (with_reducible refine Kd.C_drew ?_))); (case side4 => exact (Kd.R_reads' HO509.out).2.1); rintro e w' ⟨rfl, ⟨nd, rfl⟩⟩; refine ⟨_, rfl, ?_⟩))
                go_ret
                exact ⟨by first | rfl | (simp [errW_none, errW_some] <;> rfl) | (simp [*, errW_none, errW_some] <;> rfl), by repeat (first | (with_reducible first | exact HB.out | apply below_alloc | apply pw_below_drewN | apply below_drew1 | refine below_set ?_ GE467.out | refine below_set ?_ GE483.out | refine below_set ?_ GE489.out | refine below_set ?_ GE499.out) | exact HB.out)⟩
            · replace c69 := Bool.eq_false_iff.mpr c69
              subst c69
              have H1 : (some false) = some r := by rw [if_neg (show ¬ (false = true) by decide)] at H; exact H
              clear H
              have H := H1
              clear H1
              obtain rfl := Option.some.inj H
              try go_wp2
              have n0_ := Aside0.mk (Kd.R_drew HO_11.out)
              have n1_ := Aside0.mk (Kd.R_drew HO_484002.out)
              have n2_ := Aside0.mk (Kd.R_drew HO_490002.out)
              have n3_ := Aside0.mk (Kd.R_drew HO_500002.out)
              have n4_ := Aside0.mk (blk_drew BK467.out)
              have n5_ := Aside0.mk (blk_drew BK483.out)
              have n6_ := Aside0.mk (blk_drew BK489.out)
              have n7_ := Aside0.mk (blk_drew BK499.out)
              have n8_ := Aside0.mk (below_drew1 HB.out)
              clear HO_11
              clear HO_484002
              clear HO_490002
              clear HO_500002
              clear BK467
              clear BK483
              clear BK489
              clear BK499
              clear HB
              have HO_11 := n0_
              have HO_484002 := n1_
              have HO_490002 := n2_
              have HO_500002 := n3_
              have BK467 := n4_
              have BK483 := n5_
              have BK489 := n6_
              have BK499 := n7_
              have HB := n8_
              clear n0_ n1_ n2_ n3_ n4_ n5_ n6_ n7_ n8_
              refine start_ (n := 5) (S := fun w' => w'.cell? ⟨gb489, 0, none⟩ = some (.int .i64 t484) ∧ w'.cell? ⟨gb489, 1, none⟩ = some (.int .i64 t485) ∧ w'.cell? ⟨gb489, 2, none⟩ = some (.slice Ao37 t486.length co37) ∧ w'.cell? ⟨gb467, 0, none⟩ = some (.int .i64 a0_0) ∧ w'.cell? ⟨gb467, 1, none⟩ = some (.int .i64 a0_1) ∧ w'.cell? ⟨gb467, 2, none⟩ = some (.slice A0_2 l0_2.length c0_2)) (ds := []) #[false, false, false, false, false] (by kernel_rfl) rfl rfl ⟨(blk_cell BK489.out 0).trans rfl, (blk_cell BK489.out 1).trans rfl, (blk_cell BK489.out 2).trans rfl, (blk_cell BK467.out 0).trans rfl, (blk_cell BK467.out 1).trans rfl, (blk_cell BK467.out 2).trans rfl⟩ (fun hHeld => ?_)
              generalize wc.drew = w202 at HO_11 HO_484002 HO_490002 HO_500002 BK467 BK483 BK489 BK499 HB hHeld ⊢
              refine take_ (i := 0) (N := some 56) (v := ?_) (a' := ?_) #[true, false, false, false, false] rfl rfl (by kernel_rfl) (fun _ _ _ h => h) (Or.inl ⟨by rfl, ?_⟩) hHeld ?_ ?_
              rotate_left
              · rintro w' ⟨s0, s1, s2, s3, s4, s5⟩
                go_simp
                with_reducible rfl
              rotate_left
              · simp only [Act.put, List.setIfInBounds_toArray, List.set_cons_zero, List.set_cons_succ, i64_w, i32_w]
                rfl
              refine take_ (i := 1) (N := some 57) (v := ?_) (a' := ?_) #[true, true, false, false, false] rfl rfl (by kernel_rfl) (fun _ _ _ h => h) (Or.inl ⟨by rfl, ?_⟩) hHeld ?_ ?_
              rotate_left
              · rintro w' ⟨s0, s1, s2, s3, s4, s5⟩
                go_simp
                with_reducible rfl
              rotate_left
              · simp only [Act.put, List.setIfInBounds_toArray, List.set_cons_zero, List.set_cons_succ, i64_w, i32_w]
                rfl
              refine one_ (i := 2) (N := some 58) #[true, true, true, false, false] rfl rfl (by kernel_rfl) (by decide) (fun K hK => ?_)
              refine goes_ Try.func20 (by kernel_rfl) rfl #[.agg #[.int .i64 a0_0, .int .i64 a0_1, .slice A0_2 l0_2.length c0_2]] (by rfl) rfl rfl (by (try simp only [List.map_toArray, List.map_cons, List.map_nil]); first | done | rfl | (simp only [List.length_drop, List.length_take]; rfl)) ?_
              with_reducible refine (laws_toBoard.calls kj16 a0_0 a0_1 _ _ l0_2 t501 t502 t503 _ ?side1 ?side2 A67.out).mono ?_
              (case side1 => repeat (first | exact (Kd.C_below HR0_2.out HB.out) | (with_reducible refine Kd.C_alloc ?_ _) | (with_reducible refine Kd.C_drewN ?_ _) | (with_reducible refine Kd.C_drew ?_)))
              (case side2 => exact HC0_2.out)
              rintro e w203 ⟨v504, rfl, ho0, hb⟩
              refine ⟨_, rfl, ?_⟩
              have n0_ := Aside0.mk (Kd.R_below (by (with_reducible repeat (first | apply Kd.R_alloc | apply Kd.R_drewN | apply Kd.R_drew)); exact HO_11.out) hb)
              have n1_ := Aside0.mk (Kd.R_elder' (by (with_reducible repeat (first | apply Kd.R_alloc | apply Kd.R_drewN | apply Kd.R_drew)); exact HO_484002.out) (Kd.R_base ho0) hb)
              have n2_ := Aside0.mk (Kd.R_elder' (by (with_reducible repeat (first | apply Kd.R_alloc | apply Kd.R_drewN | apply Kd.R_drew)); exact HO_490002.out) (Kd.R_base ho0) hb)
              have n3_ := Aside0.mk (Kd.R_elder' (by (with_reducible repeat (first | apply Kd.R_alloc | apply Kd.R_drewN | apply Kd.R_drew)); exact HO_500002.out) (Kd.R_base ho0) hb)
              have n4_ := Aside0.mk (Kd.R_lower (Kd.R_new' (Kd.R_new' (Kd.R_new' ho0 (Kd.R_lt (by (with_reducible repeat (first | apply Kd.R_alloc | apply Kd.R_drewN | apply Kd.R_drew)); exact HO_484002.out))) (Kd.R_lt (by (with_reducible repeat (first | apply Kd.R_alloc | apply Kd.R_drewN | apply Kd.R_drew)); exact HO_490002.out))) (Kd.R_lt (by (with_reducible repeat (first | apply Kd.R_alloc | apply Kd.R_drewN | apply Kd.R_drew)); exact HO_500002.out))) (below_size (by repeat (first | (with_reducible first | exact HB.out | apply below_alloc | apply pw_below_drewN | apply below_drew1 | refine below_set ?_ GE467.out | refine below_set ?_ GE483.out | refine below_set ?_ GE489.out | refine below_set ?_ GE499.out) | exact HB.out))))
              have n5_ := Aside0.mk (blk_below (g := gb467) (o := .cells #[.int .i64 a0_0, .int .i64 a0_1, .slice A0_2 l0_2.length c0_2] 32 (0, 0)) (by (with_reducible repeat (first | refine blk_drewN ?_ _ | refine blk_drew ?_ | refine blk_alloc ?_ _)); exact BK467.out) hb)
              have n6_ := Aside0.mk (blk_below (g := gb483) (o := .cells #[.int .i64 t477, .int .i64 t478, .slice Ao30 t479.length co30] 24 (0, 0)) (by (with_reducible repeat (first | refine blk_drewN ?_ _ | refine blk_drew ?_ | refine blk_alloc ?_ _)); exact BK483.out) hb)
              have n7_ := Aside0.mk (blk_below (g := gb489) (o := .cells #[.int .i64 t484, .int .i64 t485, .slice Ao37 t486.length co37] 24 (0, 0)) (by (with_reducible repeat (first | refine blk_drewN ?_ _ | refine blk_drew ?_ | refine blk_alloc ?_ _)); exact BK489.out) hb)
              have n8_ := Aside0.mk (blk_below (g := gb499) (o := .cells #[.int .i64 t493, .int .i64 t494, .slice Ao47 t495.length co47] 24 (0, 0)) (by (with_reducible repeat (first | refine blk_drewN ?_ _ | refine blk_drew ?_ | refine blk_alloc ?_ _)); exact BK499.out) hb)
              have n9_ := Aside0.mk (below_step (by repeat (first | (with_reducible first | exact HB.out | apply below_alloc | apply pw_below_drewN | apply below_drew1 | refine below_set ?_ GE467.out | refine below_set ?_ GE483.out | refine below_set ?_ GE489.out | refine below_set ?_ GE499.out) | exact HB.out)) hb)
              clear HO_11
              clear HO_484002
              clear HO_490002
              clear HO_500002
              clear BK467
              clear BK483
              clear BK489
              clear BK499
              clear HB
              have HO_11 := n0_
              have HO_484002 := n1_
              have HO_490002 := n2_
              have HO_500002 := n3_
              have HO505 := n4_
              have BK467 := n5_
              have BK483 := n6_
              have BK489 := n7_
              have BK499 := n8_
              have HB := n9_
              clear n0_ n1_ n2_ n3_ n4_ n5_ n6_ n7_ n8_ n9_
              (try clear hb)
              (try clear hb2)
              (try clear hk)
              (try clear hi)
              (try clear ho0)
              obtain ⟨Ao204, co204, eo204⟩ := Kd.R_slice HO505.out
              (first | subst eo204 | (injection eo204 with f1_ f2_ f3_; have f4_ := f1_.symm; have f5_ := f3_.symm; clear f1_ f2_ f3_; subst f4_; subst f5_))
              refine hK.out _ _ ⟨(blk_cell BK489.out 0).trans rfl, (blk_cell BK489.out 1).trans rfl, (blk_cell BK489.out 2).trans rfl, (blk_cell BK467.out 0).trans rfl, (blk_cell BK467.out 1).trans rfl, (blk_cell BK467.out 2).trans rfl⟩ (fun hHeld => ?_)
              clear hK K
              refine norm_ (a' := ?_) ?_ ?_
              rotate_left
              · show Act.put _ (some 58) _ = _
                simp only [Act.put, List.setIfInBounds_toArray, List.set_cons_zero, List.set_cons_succ, i64_w, i32_w]
                rfl
              refine one_ (i := 3) (N := some 59) #[true, true, true, true, false] rfl rfl (by kernel_rfl) (by decide) (fun K hK => ?_)
              refine goes_ Try.func15 (by kernel_rfl) rfl #[.agg #[.int .i64 t484, .int .i64 t485, .slice Ao37 t486.length co37], .agg #[.int .i64 t501, .int .i64 t502, .slice Ao204 t503.length co204]] (by rfl) rfl rfl (by (try simp only [List.map_toArray, List.map_cons, List.map_nil]); first | done | rfl | (simp only [List.length_drop, List.length_take]; rfl)) ?_
              with_reducible refine (laws_eqBoard.calls kj16 t484 t485 _ _ t486 t501 t502 _ _ t503 false _ ?side1 ?side2 ?side3 ?side4 A68.out).mono ?_
              (case side1 => repeat (first | exact (Kd.R_reads' HO_490002.out).2.2 | (with_reducible refine Kd.C_alloc ?_ _) | (with_reducible refine Kd.C_drewN ?_ _) | (with_reducible refine Kd.C_drew ?_)))
              (case side2 => exact (Kd.R_reads' HO_490002.out).2.1)
              (case side3 => repeat (first | exact (Kd.R_reads' HO505.out).2.2 | (with_reducible refine Kd.C_alloc ?_ _) | (with_reducible refine Kd.C_drewN ?_ _) | (with_reducible refine Kd.C_drew ?_)))
              (case side4 => exact (Kd.R_reads' HO505.out).2.1)
              rintro e w205 ⟨rfl, hb⟩
              refine ⟨_, rfl, ?_⟩
              have n0_ := Aside0.mk (Kd.R_below (by (with_reducible repeat (first | apply Kd.R_alloc | apply Kd.R_drewN | apply Kd.R_drew)); exact HO_11.out) hb)
              have n1_ := Aside0.mk (Kd.R_below (by (with_reducible repeat (first | apply Kd.R_alloc | apply Kd.R_drewN | apply Kd.R_drew)); exact HO_484002.out) hb)
              have n2_ := Aside0.mk (Kd.R_below (by (with_reducible repeat (first | apply Kd.R_alloc | apply Kd.R_drewN | apply Kd.R_drew)); exact HO_490002.out) hb)
              have n3_ := Aside0.mk (Kd.R_below (by (with_reducible repeat (first | apply Kd.R_alloc | apply Kd.R_drewN | apply Kd.R_drew)); exact HO_500002.out) hb)
              have n4_ := Aside0.mk (Kd.R_below (by (with_reducible repeat (first | apply Kd.R_alloc | apply Kd.R_drewN | apply Kd.R_drew)); exact HO505.out) hb)
              have n5_ := Aside0.mk (blk_below (g := gb467) (o := .cells #[.int .i64 a0_0, .int .i64 a0_1, .slice A0_2 l0_2.length c0_2] 32 (0, 0)) (by (with_reducible repeat (first | refine blk_drewN ?_ _ | refine blk_drew ?_ | refine blk_alloc ?_ _)); exact BK467.out) hb)
              have n6_ := Aside0.mk (blk_below (g := gb483) (o := .cells #[.int .i64 t477, .int .i64 t478, .slice Ao30 t479.length co30] 24 (0, 0)) (by (with_reducible repeat (first | refine blk_drewN ?_ _ | refine blk_drew ?_ | refine blk_alloc ?_ _)); exact BK483.out) hb)
              have n7_ := Aside0.mk (blk_below (g := gb489) (o := .cells #[.int .i64 t484, .int .i64 t485, .slice Ao37 t486.length co37] 24 (0, 0)) (by (with_reducible repeat (first | refine blk_drewN ?_ _ | refine blk_drew ?_ | refine blk_alloc ?_ _)); exact BK489.out) hb)
              have n8_ := Aside0.mk (blk_below (g := gb499) (o := .cells #[.int .i64 t493, .int .i64 t494, .slice Ao47 t495.length co47] 24 (0, 0)) (by (with_reducible repeat (first | refine blk_drewN ?_ _ | refine blk_drew ?_ | refine blk_alloc ?_ _)); exact BK499.out) hb)
              have n9_ := Aside0.mk (below_step (by repeat (first | (with_reducible first | exact HB.out | apply below_alloc | apply pw_below_drewN | apply below_drew1 | refine below_set ?_ GE467.out | refine below_set ?_ GE483.out | refine below_set ?_ GE489.out | refine below_set ?_ GE499.out) | exact HB.out)) hb)
              clear HO_11
              clear HO_484002
              clear HO_490002
              clear HO_500002
              clear HO505
              clear BK467
              clear BK483
              clear BK489
              clear BK499
              clear HB
              have HO_11 := n0_
              have HO_484002 := n1_
              have HO_490002 := n2_
              have HO_500002 := n3_
              have HO505 := n4_
              have BK467 := n5_
              have BK483 := n6_
              have BK489 := n7_
              have BK499 := n8_
              have HB := n9_
              clear n0_ n1_ n2_ n3_ n4_ n5_ n6_ n7_ n8_ n9_
              (try clear hb)
              (try clear hb2)
              (try clear hk)
              (try clear hi)
              refine hK.out _ _ ⟨(blk_cell BK489.out 0).trans rfl, (blk_cell BK489.out 1).trans rfl, (blk_cell BK489.out 2).trans rfl, (blk_cell BK467.out 0).trans rfl, (blk_cell BK467.out 1).trans rfl, (blk_cell BK467.out 2).trans rfl⟩ (fun hHeld => ?_)
              clear hK K
              refine norm_ (a' := ?_) ?_ ?_
              rotate_left
              · show Act.put _ (some 59) _ = _
                simp only [Act.put, List.setIfInBounds_toArray, List.set_cons_zero, List.set_cons_succ, i64_w, i32_w]
                rfl
              refine pure_ (i := 4) (N := some 60) (v := ?_) (a' := ?_) #[true, true, true, true, true] rfl rfl (by kernel_rfl) (fun _ _ _ h => h) (Or.inl ⟨by rfl, ?_⟩) ?_ ?_
              rotate_left
              · intro w'
                go_simp
                with_reducible rfl
              rotate_left
              · simp only [Act.put, List.setIfInBounds_toArray, List.set_cons_zero, List.set_cons_succ, i64_w, i32_w]
                rfl
              refine done_ (by kernel_rfl) ?_
              try go_wp2
              go_ret
              exact ⟨by first | rfl | (simp [errW_none, errW_some] <;> rfl) | (simp [*, errW_none, errW_some] <;> rfl), by repeat (first | (with_reducible first | exact HB.out | apply below_alloc | apply pw_below_drewN | apply below_drew1 | refine below_set ?_ GE467.out | refine below_set ?_ GE483.out | refine below_set ?_ GE489.out | refine below_set ?_ GE499.out) | exact HB.out)⟩

end Go.Proofs.Ytcilbmbgdcepgaa.P
