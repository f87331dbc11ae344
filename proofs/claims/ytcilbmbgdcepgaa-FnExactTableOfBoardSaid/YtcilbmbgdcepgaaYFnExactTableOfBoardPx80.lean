/- The walk of spec.ReadEntry (printed by gen_re.py). -/
import Derived.Test.YtcilbmbgdcepgaaYFnExactTableOfBoardAEn
import Derived.Test.YtcilbmbgdcepgaaYFnExactTableOfBoardPx79
import Derived.Test.YtcilbmbgdcepgaaZFnExactTableOfBoard0
namespace Go.Proofs.Ytcilbmbgdcepgaa.P
open Go.RowKit YtcilbmbgdcepgaaW.PrintWords YtcilbmbgdcepgaaW.PrintLast YtcilbmbgdcepgaaW.PrintMore Own A
set_option linter.unusedVariables false
set_option linter.unusedSimpArgs false
/-! ### spec_ReadEntry: function 33 -/
def spec_ReadEntry.f (k : Nat) (a0_0 : Int) (a0_1 : Int) (l0_2 : List (S71)) (a1 : Int) (a2 : Int) : Option (Int × Bool) := if l0_2.length ≤ maxLen then some (resRE a0_0 a0_1 l0_2 a1 a2) else none
theorem spec_ReadEntry.mono : ∀ a0 a1 a2 a3 a4 k, LeO (spec_ReadEntry.f k a0 a1 a2 a3 a4) (spec_ReadEntry.f (k + 1) a0 a1 a2 a3 a4) := fun _ _ _ _ _ _ _ h => h
set_option maxHeartbeats 8000000 in
set_option maxRecDepth 100000 in
theorem spec_ReadEntry.calls (k : Nat) (a0_0 : Int) (a0_1 : Int) (A0_2 : Option Addr) (c0_2 : Nat) (l0_2 : List (S71)) (a1 : Int) (a2 : Int) (r1 : Int) (r2 : Bool) (w : World) (hr0_2 : Kd.C k71 w A0_2 l0_2.length l0_2) (hc0_2 : l0_2.length ≤ c0_2) (h : spec_ReadEntry.f k a0_0 a0_1 l0_2 a1 a2 = some (r1, r2)) :
  Calls Try.prog 33 #[.agg #[.int .i64 a0_0, .int .i64 a0_1, .slice A0_2 l0_2.length c0_2], .int .i64 a1, .int .i64 a2] w fun e w' => e = .returned (.tuple #[.int .i64 r1, .bool r2]) ∧ Below w.heap.size w w' := by
 have hu24 := Try.underlying24
 have hu81 := Try.underlying81
 unfold spec_ReadEntry.f at h
 by_cases hk : l0_2.length ≤ maxLen
 case neg => rw [if_neg hk] at h; simp at h
 rw [if_pos hk] at h
 simp only [Option.some.injEq] at h
 unfold resRE at h
 have HC := Aside0.mk hr0_2
 have HCC := Aside0.mk hc0_2
 obtain ⟨KH, hKH⟩ := flHas a0_0 a0_1 l0_2 a2 hk
 have HH0 := hKH KH (Nat.le_refl _)
 have HL := Aside0.mk (in_f a1 0 a0_1)
 have BA := Aside0.mk (blk_new w (.cells #[.int .i64 a0_0, .int .i64 a0_1, .slice A0_2 l0_2.length c0_2] 24))
 have HB := Aside0.mk (below_alloc (Below.refl w.heap.size w) (.cells #[.int .i64 a0_0, .int .i64 a0_1, .slice A0_2 l0_2.length c0_2] 24))
 clear hr0_2 hc0_2 hk hKH
 go_enter Try.func33, Try.ntmps33
 by_cases hv : BoOk a0_0 a0_1 l0_2 ∧ 0 ≤ a2 ∧ a2 < a0_1
 case neg =>
  rw [if_neg (fun h_ : EnOk a0_0 a0_1 l0_2 a1 a2 => hv h_.1)] at h
  rw [decide_eq_false hv] at HH0
  have HH := Aside0.mk HH0
  cases h
  clear HH0 hv
  go_wp2_with (first | (go_at_call 71; (with_reducible refine (spec_flHas.calls KH _ _ _ _ l0_2 _ false _ (Kd.C_below HC.out HB.out) HCC.out HH.out).mono ?_); rintro e w3 ⟨rfl, hb⟩; have B3 := Aside0.mk (blk_below BA.out hb); have HB3 := Aside0.mk (below_step HB.out hb); have x0 := (blk_cell B3.out 0).trans rfl; have x1 := (blk_cell B3.out 1).trans rfl; have x2 := (blk_cell B3.out 2).trans rfl; clear hb HB BA) | fail)
  go_ret2
  exact ⟨rfl, HB3.out⟩
 rw [decide_eq_true hv] at HH0
 have HH := Aside0.mk HH0
 clear HH0
 by_cases hs : 0 ≤ a1 ∧ a1 ≤ a0_1
 case neg =>
  rw [if_neg (fun h_ : EnOk a0_0 a0_1 l0_2 a1 a2 => hs h_.2)] at h
  rw [decide_eq_false hs] at HL
  cases h
  clear hs hv
  go_wp2_with (first | (go_at_call 71; (with_reducible refine (spec_flHas.calls KH _ _ _ _ l0_2 _ true _ (Kd.C_below HC.out HB.out) HCC.out HH.out).mono ?_); rintro e w3 ⟨rfl, hb⟩; have B3 := Aside0.mk (blk_below BA.out hb); have HB3 := Aside0.mk (below_step HB.out hb); have x0 := (blk_cell B3.out 0).trans rfl; have x1 := (blk_cell B3.out 1).trans rfl; have x2 := (blk_cell B3.out 2).trans rfl; clear hb HB BA) | (go_at_call 63; (with_reducible refine (spec_l1In.calls _ _ _ false _ HL.out).mono ?_); rintro e w4 ⟨rfl, ⟨nd, rfl⟩⟩; have B4 := Aside0.mk (blk_below B3.out (pw_below_drewN (Below.refl _ _) nd)); have HB4 := Aside0.mk (below_step HB3.out (pw_below_drewN (Below.refl _ _) nd)); clear HB3 B3 x0 x1 x2; generalize w3.drewN nd = w5 at B4 HB4 ⊢; have x0 := (blk_cell B4.out 0).trans rfl; have x1 := (blk_cell B4.out 1).trans rfl; have x2 := (blk_cell B4.out 2).trans rfl) | fail)
  go_ret2
  exact ⟨rfl, HB4.out⟩
 rw [if_pos (show EnOk a0_0 a0_1 l0_2 a1 a2 from ⟨hv, hs⟩)] at h
 rw [decide_eq_true hs] at HL
 unfold valE at h
 have FR : Aside0 (spec_flRun.f 0 a0_0 a0_1 l0_2 a2 = some ((fallL a0_0.toNat a0_1.toNat l0_2 a2).1.1, (fallL a0_0.toNat a0_1.toNat l0_2 a2).1.2.1, (fallL a0_0.toNat a0_1.toNat l0_2 a2).1.2.2, a0_0, a0_1, (fallL a0_0.toNat a0_1.toNat l0_2 a2).2)) := ⟨by unfold spec_flRun.f; rw [if_pos (show FallFit a0_0 a0_1 l0_2 a2 from hv)]⟩
 obtain ⟨p, hp⟩ : ∃ p, p = fallL a0_0.toNat a0_1.toNat l0_2 a2 := ⟨_, rfl⟩
 rw [← hp] at FR h
 obtain ⟨⟨q1, q2, q3⟩, cs⟩ := p
 simp only at FR h
 clear hp hs hv
 by_cases h1 : q1 = 1
 case neg =>
  rw [if_neg h1] at h
  cases h
  have b1 : (q1 == 1) = false := beq_false_of_ne h1
  have b2 : (q1 != 1) = true := by simp [h1]
  go_wp2_with (first | (go_at_call 71; (with_reducible refine (spec_flHas.calls KH _ _ _ _ l0_2 _ true _ (Kd.C_below HC.out HB.out) HCC.out HH.out).mono ?_); rintro e w3 ⟨rfl, hb⟩; have B3 := Aside0.mk (blk_below BA.out hb); have HB3 := Aside0.mk (below_step HB.out hb); have x0 := (blk_cell B3.out 0).trans rfl; have x1 := (blk_cell B3.out 1).trans rfl; have x2 := (blk_cell B3.out 2).trans rfl; clear hb HB BA) | (go_at_call 63; (with_reducible refine (spec_l1In.calls _ _ _ true _ HL.out).mono ?_); rintro e w4 ⟨rfl, ⟨nd, rfl⟩⟩; have B4 := Aside0.mk (blk_below B3.out (pw_below_drewN (Below.refl _ _) nd)); have HB4 := Aside0.mk (below_step HB3.out (pw_below_drewN (Below.refl _ _) nd)); clear HB3 B3 x0 x1 x2; generalize w3.drewN nd = w5 at B4 HB4 ⊢; have x0 := (blk_cell B4.out 0).trans rfl; have x1 := (blk_cell B4.out 1).trans rfl; have x2 := (blk_cell B4.out 2).trans rfl) | (go_at_call 72; (with_reducible refine (spec_flRun.calls 0 _ _ _ _ l0_2 _ q1 q2 q3 _ _ cs _ (Kd.C_below HC.out HB4.out) HCC.out FR.out).mono ?_); rintro e w6 ⟨v, rfl, hR, hb⟩; obtain ⟨Av, cv, ev⟩ := Kd.R_slice hR; subst ev; have HB6 := Aside0.mk (below_step HB4.out hb); clear hb hR HB4 B4 x0 x1 x2) | fail)
  go_ret2
  exact ⟨rfl, below_alloc (below_alloc HB6.out _) _⟩
 subst h1
 rw [if_pos rfl] at h
 by_cases h3 : q3 < a1
 ·rw [if_pos h3] at h
  cases h
  have d3 : decide (q3 < a1) = true := decide_eq_true h3
  go_wp2_with (first | (go_at_call 71; (with_reducible refine (spec_flHas.calls KH _ _ _ _ l0_2 _ true _ (Kd.C_below HC.out HB.out) HCC.out HH.out).mono ?_); rintro e w3 ⟨rfl, hb⟩; have B3 := Aside0.mk (blk_below BA.out hb); have HB3 := Aside0.mk (below_step HB.out hb); have x0 := (blk_cell B3.out 0).trans rfl; have x1 := (blk_cell B3.out 1).trans rfl; have x2 := (blk_cell B3.out 2).trans rfl; clear hb HB BA) | (go_at_call 63; (with_reducible refine (spec_l1In.calls _ _ _ true _ HL.out).mono ?_); rintro e w4 ⟨rfl, ⟨nd, rfl⟩⟩; have B4 := Aside0.mk (blk_below B3.out (pw_below_drewN (Below.refl _ _) nd)); have HB4 := Aside0.mk (below_step HB3.out (pw_below_drewN (Below.refl _ _) nd)); clear HB3 B3 x0 x1 x2; generalize w3.drewN nd = w5 at B4 HB4 ⊢; have x0 := (blk_cell B4.out 0).trans rfl; have x1 := (blk_cell B4.out 1).trans rfl; have x2 := (blk_cell B4.out 2).trans rfl) | (go_at_call 72; (with_reducible refine (spec_flRun.calls 0 _ _ _ _ l0_2 _ 1 q2 q3 _ _ cs _ (Kd.C_below HC.out HB4.out) HCC.out FR.out).mono ?_); rintro e w6 ⟨v, rfl, hR, hb⟩; obtain ⟨Av, cv, ev⟩ := Kd.R_slice hR; subst ev; have HB6 := Aside0.mk (below_step HB4.out hb); clear hb hR HB4 B4 x0 x1 x2) | fail)
  go_ret2
  exact ⟨rfl, below_alloc (below_alloc HB6.out _) _⟩
 ·rw [if_neg h3] at h
  cases h
  have d3 : decide (q3 < a1) = false := decide_eq_false h3
  go_wp2_with (first | (go_at_call 71; (with_reducible refine (spec_flHas.calls KH _ _ _ _ l0_2 _ true _ (Kd.C_below HC.out HB.out) HCC.out HH.out).mono ?_); rintro e w3 ⟨rfl, hb⟩; have B3 := Aside0.mk (blk_below BA.out hb); have HB3 := Aside0.mk (below_step HB.out hb); have x0 := (blk_cell B3.out 0).trans rfl; have x1 := (blk_cell B3.out 1).trans rfl; have x2 := (blk_cell B3.out 2).trans rfl; clear hb HB BA) | (go_at_call 63; (with_reducible refine (spec_l1In.calls _ _ _ true _ HL.out).mono ?_); rintro e w4 ⟨rfl, ⟨nd, rfl⟩⟩; have B4 := Aside0.mk (blk_below B3.out (pw_below_drewN (Below.refl _ _) nd)); have HB4 := Aside0.mk (below_step HB3.out (pw_below_drewN (Below.refl _ _) nd)); clear HB3 B3 x0 x1 x2; generalize w3.drewN nd = w5 at B4 HB4 ⊢; have x0 := (blk_cell B4.out 0).trans rfl; have x1 := (blk_cell B4.out 1).trans rfl; have x2 := (blk_cell B4.out 2).trans rfl) | (go_at_call 72; (with_reducible refine (spec_flRun.calls 0 _ _ _ _ l0_2 _ 1 q2 q3 _ _ cs _ (Kd.C_below HC.out HB4.out) HCC.out FR.out).mono ?_); rintro e w6 ⟨v, rfl, hR, hb⟩; obtain ⟨Av, cv, ev⟩ := Kd.R_slice hR; subst ev; have HB6 := Aside0.mk (below_step HB4.out hb); clear hb hR HB4 B4 x0 x1 x2) | fail)
  go_ret2
  exact ⟨rfl, below_alloc (below_alloc HB6.out _) _⟩
end Go.Proofs.Ytcilbmbgdcepgaa.P
