/- The walk of the program's ShortestAccepted: the first final state that the search finds, and its word, which is the call's own. -/
import Derived.Test.YtkfedkckakegjaaYFnExactShortestAcceptedPx20
import Derived.Test.YtkfedkckakegjaaYFnExactShortestAcceptedPx18
import Derived.Test.YtkfedkckakegjaaYFnExactShortestAcceptedVFirst
import Derived.Test.YtkfedkckakegjaaYFnExactShortestAcceptedAFind
namespace Go.Proofs.Ytkfedkckakegjaa.P
open Go.RowKit Go.Proofs.YtkfedkckakegjaaW.PrintWords Go.Proofs.YtkfedkckakegjaaW.PrintLast Go.Proofs.YtkfedkckakegjaaW.PrintMore Go.Proofs.Ytkfedkckakegjaa.Own Go.Proofs.Ytkfedkckakegjaa.A
set_option linter.unusedVariables false
set_option linter.unusedSimpArgs false
/-! ### impl_ShortestAccepted: function 22 -/
def impl_ShortestAccepted.f (k : Nat) (L : Int) (N : List (List Int)) (F : List Int) : Option (List Int × Bool) := if AuSmall N F then some (if AuOk L N F then findA F (bfsA N).1 (bfsA N).2 else ([], false)) else none
set_option maxHeartbeats 4000000 in
set_option maxRecDepth 100000 in
theorem impl_ShortestAccepted.calls (k : Nat) (a0_0 : Int) (A0_1 : Option Addr) (c0_1 : Nat) (l0_1 : List (List Int)) (A0_2 : Option Addr) (c0_2 : Nat) (l0_2 : List Int) (r1 : List Int) (r2 : Bool) (w : World) (hr0_1 : Kd.C (Kd.slice 3 (Kd.int .i64)) w A0_1 l0_1.length l0_1) (hc0_1 : l0_1.length ≤ c0_1) (hr0_2 : Kd.C (Kd.int .i64) w A0_2 l0_2.length l0_2) (hc0_2 : l0_2.length ≤ c0_2) (h : impl_ShortestAccepted.f k a0_0 l0_1 l0_2 = some (r1, r2)) :
    Calls Try.prog 22 #[.agg #[.int .i64 a0_0, .slice A0_1 l0_1.length c0_1, .slice A0_2 l0_2.length c0_2]] w fun e w' => ∃ v0_ : Value, e = .returned (.tuple #[v0_, .bool r2]) ∧ Kd.R (Kd.int .i64) 3 w' w.heap.size (fun _ => True) v0_ r1 ∧ Below w.heap.size w w' := by
  have hu29 := Try.underlying29
  unfold impl_ShortestAccepted.f at h
  by_cases hsm : AuSmall l0_1 l0_2
  case neg => rw [if_neg hsm] at h; simp at h
  rw [if_pos hsm] at h
  replace h := Option.some.inj h
  have hl2 : l0_2.length ≤ 1048576 := hsm.2.2
  have H1 := Aside0.mk hr0_1
  have H2 := Aside0.mk hr0_2
  have HC1 := Aside0.mk hc0_1
  have HC2 := Aside0.mk hc0_2
  have HB0 : Aside0 (Below w.heap.size w (w.alloc (.cells #[.int .i64 a0_0, .slice A0_1 l0_1.length c0_1, .slice A0_2 l0_2.length c0_2] 29))) := ⟨below_alloc (Below.refl _ _) _⟩
  have BK0 := Aside0.mk (blk_new w (.cells #[.int .i64 a0_0, .slice A0_1 l0_1.length c0_1, .slice A0_2 l0_2.length c0_2] 29))
  obtain ⟨K, hK⟩ := isAu a0_0 l0_1 l0_2 (by simp only [maxLen]; have := hsm.1; omega) (fun x hx => by have := hsm.2.1 x hx; simp only [maxLen]; omega) (by simp only [maxLen]; omega)
  have HK : Aside0 (impl_IsAutomaton.f K a0_0 l0_1 l0_2 = some (decide (AuOk a0_0 l0_1 l0_2))) := ⟨hK K (Nat.le_refl _)⟩
  clear hr0_1 hc0_1 hr0_2 hc0_2 hK hsm
  by_cases hA : AuOk a0_0 l0_1 l0_2
  · rw [if_pos hA] at h
    have HA := Aside0.mk hA
    have HK2 : Aside0 (impl_IsAutomaton.f K a0_0 l0_1 l0_2 = some true) := ⟨by rw [HK.out, decide_eq_true hA]⟩
    have H := Aside0.mk h
    have hw := bfsA_word hA
    obtain ⟨S, hS⟩ : ∃ S, S = (bfsA l0_1).1 := ⟨_, rfl⟩
    obtain ⟨X, hX⟩ : ∃ X, X = (bfsA l0_1).2 := ⟨_, rfl⟩
    have HSX := Aside0.mk (And.intro hS hX)
    rw [← hS, ← hX] at H hw
    obtain ⟨hS12, hXS, _⟩ := hw
    clear hS hX h hA HK
    go_enter Try.func22, Try.ntmps22
    go_wp2_with fail
    refine (impl_IsAutomaton.calls K _ _ _ _ _ _ _ true _ (Kd.C_below H1.out HB0.out) HC1.out (Kd.C_below H2.out HB0.out) HC2.out HK2.out).mono ?_
    rintro e w1 ⟨rfl, hb⟩
    have HB1 := Aside0.mk (below_step HB0.out hb)
    have BK1 := Aside0.mk (blk_below BK0.out hb)
    have z0 : w1.cell? ⟨w.heap.size, 0, none⟩ = some (.int .i64 a0_0) := (blk_cell BK1.out 0).trans rfl
    have z1 : w1.cell? ⟨w.heap.size, 1, none⟩ = some (.slice A0_1 l0_1.length c0_1) := (blk_cell BK1.out 1).trans rfl
    have z2 : w1.cell? ⟨w.heap.size, 2, none⟩ = some (.slice A0_2 l0_2.length c0_2) := (blk_cell BK1.out 2).trans rfl
    clear hb HB0 BK0 HK2
    go_wp2_with fail
    refine (firstWords_own a0_0 _ _ l0_1 _ _ l0_2 _ (Kd.C_below H1.out HB1.out) HC1.out (Kd.C_below H2.out HB1.out) HC2.out HA.out).mono ?_
    rintro e w2 ⟨v4, v5, rfl, hR, hS, hb⟩
    rw [← HSX.out.1] at hR
    rw [← HSX.out.2] at hS
    have HR2 := Aside0.mk (Kd.R_lower hR HB1.out.size)
    have HS2 := Aside0.mk (Kd.S_lower hS HB1.out.size)
    have HB2 := Aside0.mk (below_step HB1.out hb)
    have BK2 := Aside0.mk (blk_below BK1.out hb)
    obtain ⟨A4, c4, e4⟩ := Kd.R_slice hR
    subst e4
    obtain ⟨A5, c5, e5⟩ := Kd.S_slice hS
    subst e5
    clear hb hR hS HB1 BK1 z0 z1 z2
    go_wp2_with fail
    go_loopw [18] (fun v18 wr => ∃ i : Nat, i ≤ S.length ∧ v18 = .int .i64 i ∧ Aside0 (findA l0_2 (S.drop i) (X.drop i) = (r1, r2)) ∧ Aside0 (Kd.R (Kd.int .i64) 3 wr w.heap.size (fun _ => True) (.slice A4 S.length c4) S) ∧ Aside0 (Kd.S (Kd.slice 3 (Kd.int .i64)) 23 wr w.heap.size (fun k => some k ≠ (Value.slice A4 S.length c4).ownBlock) (.slice A5 X.length c5) X) ∧ Aside0 (wr.heap[w.heap.size]? = some (.cells #[.int .i64 a0_0, .slice A0_1 l0_1.length c0_1, .slice A0_2 l0_2.length c0_2] 29 (0, 0))) ∧ Aside0 (Below w.heap.size w wr)) (fun i _ => S.length - (intOf i).toNat)
    case atStart => exact ⟨0, Nat.zero_le _, rfl, ⟨by simpa using H.out⟩, HR2, HS2, BK2, HB2⟩
    case round =>
      clear HR2 HS2 HB2 BK2 H
      obtain ⟨i, hi, rfl, H, HR, HS, BK, HB⟩ := hrel
      have z2 : wr.cell? ⟨w.heap.size, 2, none⟩ = some (.slice A0_2 l0_2.length c0_2) := (blk_cell BK.out 2).trans rfl
      by_cases hlt : i < S.length
      · obtain ⟨ad4, ea4, hx4⟩ := Kd.at_int (Kd.R_reads' HR.out).2.2 (i : Int) (by omega) (by omega)
        obtain ⟨s, hs⟩ : ∃ s, s = rd S (i : Int) := ⟨_, rfl⟩
        rw [← hs, Int.toNat_natCast] at hx4
        subst ea4
        have h := H.out
        rw [findA_at l0_2 hlt (by omega), ← hs] at h
        obtain ⟨ad5, _, _, ea5, -⟩ := at_L1 (Kd.S_reads' HS.out).2.2 (i : Int) (by omega) (by omega)
        subst ea5
        obtain ⟨ce, hce, hM, hcc⟩ := Kd.S_get HS.out [] (i : Int) (by omega) (by omega)
        obtain ⟨ve, rfl, hve⟩ := hM
        have hxe := hcc 0 ve rfl
        obtain ⟨Ae, cve, eve⟩ := Kd.R_slice hve
        simp only [show (Kd.slice 3 (Kd.int .i64)).sz = 1 from rfl, Int.toNat_natCast, Nat.mul_one, Nat.add_zero] at hxe hve eve
        obtain ⟨x, hx⟩ : ∃ x, x = X.getD i [] := ⟨_, rfl⟩
        have hx2 : rd_L1 X (i : Int) = x := by rw [hx]; simp [rd_L1]
        rw [← hx] at hve eve
        rw [hx2] at h
        subst eve
        have HV := Aside0.mk hve
        obtain ⟨K2, hK2⟩ := contains l0_2 s (by simp only [maxLen]; omega)
        have HK3 : Aside0 (slices_Contains_int_int.f K2 l0_2 s = some (decide (s ∈ l0_2))) := ⟨hK2 K2 (Nat.le_refl _)⟩
        clear hve hce hcc hK2 hx hx2 hs
        by_cases hm : s ∈ l0_2
        · rw [if_pos hm] at h
          have HK4 : Aside0 (slices_Contains_int_int.f K2 l0_2 s = some true) := ⟨by rw [HK3.out, decide_eq_true hm]⟩
          simp only [Prod.mk.injEq] at h
          obtain ⟨rfl, rfl⟩ := h
          clear HK3 hm
          go_wp2_with (go_at_call 52; (with_reducible refine (slices_Contains_int_int.calls K2 _ _ l0_2 s true _ (Kd.C_below H2.out (below_step HB.out (by repeat (first | with_reducible exact Below.refl _ _ | with_reducible apply below_alloc | with_reducible apply pw_below_drewN | with_reducible apply below_drew1)))) HC2.out HK4.out).mono ?_); rintro e w' ⟨rfl, ⟨nd, rfl⟩⟩)
          go_ret2
          exact ⟨_, rfl, Kd.R_mono (Kd.R_below HV.out (by repeat (first | with_reducible exact Below.refl _ _ | with_reducible apply below_alloc | with_reducible apply pw_below_drewN | with_reducible apply below_drew1))) (fun _ _ => trivial), below_step HB.out (by repeat (first | with_reducible exact Below.refl _ _ | with_reducible apply below_alloc | with_reducible apply pw_below_drewN | with_reducible apply below_drew1))⟩
        · rw [if_neg hm] at h
          have HK4 : Aside0 (slices_Contains_int_int.f K2 l0_2 s = some false) := ⟨by rw [HK3.out, decide_eq_false hm]⟩
          have H := Aside0.mk h
          clear HK3 hm h
          go_wp2_with (go_at_call 52; (with_reducible refine (slices_Contains_int_int.calls K2 _ _ l0_2 s false _ (Kd.C_below H2.out (below_step HB.out (by repeat (first | with_reducible exact Below.refl _ _ | with_reducible apply below_alloc | with_reducible apply pw_below_drewN | with_reducible apply below_drew1)))) HC2.out HK4.out).mono ?_); rintro e w' ⟨rfl, ⟨nd, rfl⟩⟩)
          go_roundw
          case rel => exact ⟨i + 1, by omega, by go_num, H, ⟨Kd.R_below HR.out (by repeat (first | with_reducible exact Below.refl _ _ | with_reducible apply below_alloc | with_reducible apply pw_below_drewN | with_reducible apply below_drew1))⟩, ⟨Kd.S_below HS.out (by repeat (first | with_reducible exact Below.refl _ _ | with_reducible apply below_alloc | with_reducible apply pw_below_drewN | with_reducible apply below_drew1))⟩, ⟨blk_below BK.out (by repeat (first | with_reducible exact Below.refl _ _ | with_reducible apply below_alloc | with_reducible apply pw_below_drewN | with_reducible apply below_drew1))⟩, ⟨below_step HB.out (by repeat (first | with_reducible exact Below.refl _ _ | with_reducible apply below_alloc | with_reducible apply pw_below_drewN | with_reducible apply below_drew1))⟩⟩
          case measure => simp [intOf]; omega
      · have h := H.out
        obtain rfl : i = S.length := by omega
        rw [show S.drop S.length = [] by simp, findA] at h
        simp only [Prod.mk.injEq] at h
        obtain ⟨rfl, rfl⟩ := h
        go_wp2
        go_ret2
        exact ⟨_, rfl, Kd.R_nil _ _ _ _ _, HB.out⟩
  · rw [if_neg hA] at h
    simp only [Prod.mk.injEq] at h
    obtain ⟨rfl, rfl⟩ := h
    have HK2 : Aside0 (impl_IsAutomaton.f K a0_0 l0_1 l0_2 = some false) := ⟨by rw [HK.out, decide_eq_false hA]⟩
    clear hA HK
    go_enter Try.func22, Try.ntmps22
    go_wp2_with fail
    refine (impl_IsAutomaton.calls K _ _ _ _ _ _ _ false _ (Kd.C_below H1.out HB0.out) HC1.out (Kd.C_below H2.out HB0.out) HC2.out HK2.out).mono ?_
    rintro e w1 ⟨rfl, hb⟩
    have HB1 := Aside0.mk (below_step HB0.out hb)
    clear hb HB0 BK0 HK2
    go_wp2_with fail
    go_ret2
    exact ⟨_, rfl, Kd.R_nil _ _ _ _ _, HB1.out⟩
end Go.Proofs.Ytkfedkckakegjaa.P
