/- The walk of the program's ReachedStates: the states that the search finds, sorted. -/
import Derived.Test.YtkfedkckakegjaaYFnExactReachedStatesPx18
import Derived.Test.YtkfedkckakegjaaYFnExactReachedStatesVFirst
import Derived.Test.YtkfedkckakegjaaYFnExactReachedStatesVSort
import Derived.Test.YtkfedkckakegjaaYFnExactReachedStatesAFind
namespace Go.Proofs.Ytkfedkckakegjaa.P
open Go.RowKit Go.Proofs.YtkfedkckakegjaaW.PrintWords Go.Proofs.YtkfedkckakegjaaW.PrintLast Go.Proofs.YtkfedkckakegjaaW.PrintMore Go.Proofs.Ytkfedkckakegjaa.Own Go.Proofs.Ytkfedkckakegjaa.A
set_option linter.unusedVariables false
set_option linter.unusedSimpArgs false
/-! ### impl_ReachedStates: function 41 -/
def impl_ReachedStates.f (k : Nat) (L : Int) (N : List (List Int)) (F : List Int) : Option (List Int × Bool) := if AuSmall N F then some (if AuOk L N F then (sortL (bfsA N).1, true) else ([], false)) else none
set_option maxHeartbeats 4000000 in
set_option maxRecDepth 100000 in
theorem impl_ReachedStates.calls (k : Nat) (a0_0 : Int) (A0_1 : Option Addr) (c0_1 : Nat) (l0_1 : List (List Int)) (A0_2 : Option Addr) (c0_2 : Nat) (l0_2 : List Int) (r1 : List Int) (r2 : Bool) (w : World) (hr0_1 : Kd.C (Kd.slice 3 (Kd.int .i64)) w A0_1 l0_1.length l0_1) (hc0_1 : l0_1.length ≤ c0_1) (hr0_2 : Kd.C (Kd.int .i64) w A0_2 l0_2.length l0_2) (hc0_2 : l0_2.length ≤ c0_2) (h : impl_ReachedStates.f k a0_0 l0_1 l0_2 = some (r1, r2)) :
    Calls Try.prog 41 #[.agg #[.int .i64 a0_0, .slice A0_1 l0_1.length c0_1, .slice A0_2 l0_2.length c0_2]] w fun e w' => ∃ v0_ : Value, e = .returned (.tuple #[v0_, .bool r2]) ∧ Kd.R (Kd.int .i64) 3 w' w.heap.size (fun _ => True) v0_ r1 ∧ Below w.heap.size w w' := by
  have hu29 := Try.underlying29
  unfold impl_ReachedStates.f at h
  by_cases hsm : AuSmall l0_1 l0_2
  case neg => rw [if_neg hsm] at h; simp at h
  rw [if_pos hsm] at h
  replace h := Option.some.inj h
  have H1 := Aside0.mk hr0_1
  have H2 := Aside0.mk hr0_2
  have HC1 := Aside0.mk hc0_1
  have HC2 := Aside0.mk hc0_2
  have HB0 : Aside0 (Below w.heap.size w (w.alloc (.cells #[.int .i64 a0_0, .slice A0_1 l0_1.length c0_1, .slice A0_2 l0_2.length c0_2] 29))) := ⟨below_alloc (Below.refl _ _) _⟩
  have BK0 := Aside0.mk (blk_new w (.cells #[.int .i64 a0_0, .slice A0_1 l0_1.length c0_1, .slice A0_2 l0_2.length c0_2] 29))
  obtain ⟨K, hK⟩ := isAu a0_0 l0_1 l0_2 (by simp only [maxLen]; have := hsm.1; omega) (fun x hx => by have := hsm.2.1 x hx; simp only [maxLen]; omega) (by have := hsm.2.2; simp only [maxLen]; omega)
  have HK : Aside0 (impl_IsAutomaton.f K a0_0 l0_1 l0_2 = some (decide (AuOk a0_0 l0_1 l0_2))) := ⟨hK K (Nat.le_refl _)⟩
  clear hr0_1 hc0_1 hr0_2 hc0_2 hK hsm
  by_cases hA : AuOk a0_0 l0_1 l0_2
  · rw [if_pos hA] at h
    have HA := Aside0.mk hA
    have HK2 : Aside0 (impl_IsAutomaton.f K a0_0 l0_1 l0_2 = some true) := ⟨by rw [HK.out, decide_eq_true hA]⟩
    simp only [Prod.mk.injEq] at h
    obtain ⟨rfl, rfl⟩ := h
    have hw := bfsA_word hA
    have hb0 := (bfsA_end hA).1
    have hS1 : 1 ≤ (bfsA l0_1).1.length := by
      have := (List.getElem?_eq_some_iff.1 hb0.start).1
      omega
    obtain ⟨r, ⟨K3, hr3⟩, hp, hs⟩ := isort (bfsA l0_1).1 hS1 (by omega)
    have hrs := sorted_is hp hs hb0.nodup
    have HS3 := Aside0.mk (hr3 K3 (Nat.le_refl _))
    have HRS := Aside0.mk hrs
    have HW := Aside0.mk hw
    clear hA HK hw hb0 hS1 hr3 hp hs hrs
    go_enter Try.func41, Try.ntmps41
    go_wp2_with fail
    refine (impl_IsAutomaton.calls K _ _ _ _ _ _ _ true _ (Kd.C_below H1.out HB0.out) HC1.out (Kd.C_below H2.out HB0.out) HC2.out HK2.out).mono ?_
    rintro e w1 ⟨rfl, hb⟩
    have HB1 := Aside0.mk (below_step HB0.out hb)
    have BK1 := Aside0.mk (blk_below BK0.out hb)
    have z0 : w1.cell? ⟨w.heap.size, 0, none⟩ = some (.int .i64 a0_0) := (blk_cell BK1.out 0).trans rfl
    have z1 : w1.cell? ⟨w.heap.size, 1, none⟩ = some (.slice A0_1 l0_1.length c0_1) := (blk_cell BK1.out 1).trans rfl
    have z2 : w1.cell? ⟨w.heap.size, 2, none⟩ = some (.slice A0_2 l0_2.length c0_2) := (blk_cell BK1.out 2).trans rfl
    clear hb HB0 BK0 HK2
    go_wp2_with fail
    refine (firstWords_own a0_0 _ _ l0_1 _ _ l0_2 _ (Kd.C_below H1.out HB1.out) HC1.out (Kd.C_below H2.out HB1.out) HC2.out HA.out).mono ?_
    rintro e w2 ⟨v4, v5, rfl, hR, hS, hb⟩
    have HR2 := Aside0.mk (Kd.R_lower hR HB1.out.size)
    have HB2 := Aside0.mk (below_step HB1.out hb)
    clear hb hR hS HB1 BK1 z0 z1 z2
    go_wp2_with fail
    refine (sort_own K3 (fun _ => True) _ (bfsA l0_1).1 r w _ HB2.out HR2.out (by have := HW.out.1; omega) HS3.out).mono ?_
    rintro e w3 ⟨rfl, hR, hb, _⟩
    have HB3 := Aside0.mk hb
    obtain ⟨A4, c4, e4⟩ := Kd.R_slice hR
    subst e4
    have HR3 := Aside0.mk (Eq.mp (congrArg (fun z => Kd.R (Kd.int .i64) 3 w3 w.heap.size (fun _ => True) (.slice A4 r.length c4) z) HRS.out) hR)
    clear hR hb HR2 HB2
    go_wp2_with fail
    go_ret2
    exact ⟨_, rfl, HR3.out, HB3.out⟩
  · rw [if_neg hA] at h
    simp only [Prod.mk.injEq] at h
    obtain ⟨rfl, rfl⟩ := h
    have HK2 : Aside0 (impl_IsAutomaton.f K a0_0 l0_1 l0_2 = some false) := ⟨by rw [HK.out, decide_eq_false hA]⟩
    clear hA HK
    go_enter Try.func41, Try.ntmps41
    go_wp2_with fail
    refine (impl_IsAutomaton.calls K _ _ _ _ _ _ _ false _ (Kd.C_below H1.out HB0.out) HC1.out (Kd.C_below H2.out HB0.out) HC2.out HK2.out).mono ?_
    rintro e w1 ⟨rfl, hb⟩
    have HB1 := Aside0.mk (below_step HB0.out hb)
    clear hb HB0 BK0 HK2
    go_wp2_with fail
    go_ret2
    exact ⟨_, rfl, Kd.R_nil _ _ _ _ _, HB1.out⟩
end Go.Proofs.Ytkfedkckakegjaa.P
