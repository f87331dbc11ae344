/- The walk of impl.IsEndless (printed by gen_run.py). -/
import Derived.Test.YtbcphkblieeemaaYFnExactIsEndlessPx23
import Derived.Test.YtbcphkblieeemaaYFnExactIsEndlessPx42
import Derived.Test.YtbcphkblieeemaaZFnExactIsEndless0
import Derived.Test.YtbcphkblieeemaaYFnExactIsEndlessPx55
import Derived.Test.YtbcphkblieeemaaYFnExactIsEndlessPx56
import Derived.Test.YtbcphkblieeemaaYFnExactIsEndlessPx60
import Derived.Test.YtbcphkblieeemaaYFnExactIsEndlessVRun
import Derived.Test.YtbcphkblieeemaaYFnExactIsEndlessAFound
import Derived.Test.YtbcphkblieeemaaYFnExactIsEndlessASlEq
namespace Go.Proofs.Ytbcphkblieeemaa.P
open Go.RowKit Go.Proofs.YtbcphkblieeemaaW.PrintWords Go.Proofs.YtbcphkblieeemaaW.PrintLast Go.Proofs.YtbcphkblieeemaaW.PrintMore Go.Proofs.Ytbcphkblieeemaa.Own Go.Proofs.Ytbcphkblieeemaa.A
set_option linter.unusedVariables false
set_option linter.unusedSimpArgs false
/-! ### impl_IsEndless: function 38 -/
def impl_IsEndless.f (k : Nat) (l : List S55) (line : Int) (vs : List Int) (i n : Int) : Option (Bool × Bool) := if l.length ≤ 1048576 ∧ vs.length ≤ 1048576 then some (if StOk l line vs ∧ 0 ≤ i ∧ i < n ∧ n ≤ 2000 then (if (statesI l n.toNat line vs).2 = true then (endI l (statesI l n.toNat line vs).1 i.toNat n.toNat, true) else (false, false)) else (false, false)) else none
set_option maxHeartbeats 4000000 in
set_option maxRecDepth 100000 in
theorem impl_IsEndless.calls (k : Nat) (A0 : Option Addr) (c0 : Nat) (l0 : List S55) (a1_0 : Int) (A1_1 : Option Addr) (c1_1 : Nat) (l1_1 : List Int) (a2 : Int) (a3 : Int) (r1 : Bool) (r2 : Bool) (w : World) (hr0 : Kd.C k55 w A0 l0.length l0) (hc0 : l0.length ≤ c0) (hr1_1 : Kd.C (Kd.int .i64) w A1_1 l1_1.length l1_1) (hc1_1 : l1_1.length ≤ c1_1) (h : impl_IsEndless.f k l0 a1_0 l1_1 a2 a3 = some (r1, r2)) :
    Calls Try.prog 38 #[.slice A0 l0.length c0, .agg #[.int .i64 a1_0, .slice A1_1 l1_1.length c1_1], .int .i64 a2, .int .i64 a3] w fun e w' => e = .returned (.tuple #[.bool r1, .bool r2]) ∧ Below w.heap.size w w' := by
  unfold impl_IsEndless.f at h
  by_cases hsm : l0.length ≤ 1048576 ∧ l1_1.length ≤ 1048576
  case neg => rw [if_neg hsm] at h; simp at h
  rw [if_pos hsm] at h
  replace h := Option.some.inj h
  have H1 := Aside0.mk hr0
  have H2 := Aside0.mk hr1_1
  have HC1 := Aside0.mk hc0
  have HC2 := Aside0.mk hc1_1
  have hu := Try.underlying31
  obtain ⟨K, hK⟩ := implIsCt l0 a1_0 l1_1 (by simp only [maxLen]; omega) (by simp only [maxLen]; omega)
  have HK : Aside0 (impl_IsCounterState.f K l0 a1_0 l1_1 = some (stOk l0 a1_0 l1_1)) := ⟨hK K (Nat.le_refl _)⟩
  clear hr0 hr1_1 hc0 hc1_1 hK
  by_cases hok : StOk l0 a1_0 l1_1
  · have HK2 : Aside0 (impl_IsCounterState.f K l0 a1_0 l1_1 = some true) := ⟨by rw [HK.out]; exact congrArg some (decide_eq_true hok)⟩
    clear HK
    by_cases hn0 : a2 < 0
    · rw [if_neg (fun h_ => by omega)] at h
      have d0 : decide (a2 < 0) = true := decide_eq_true hn0
      go_enter Try.func38, Try.ntmps38
      go_wp2_with (first
        | ((with_reducible refine gate_dst (N := 5) rfl ?_); refine box_event ?hg (N := 5) ?hd (cs := #[.int .i64 a1_0, .slice A1_1 l1_1.length c1_1]) (t := 31) ?hr ?_; (case hd => rfl); (case hg => rfl); (case hr => first | (go_simp; done) | (go_simp; rfl)); intro g3 hg w3 hbox hb; have B3 := Aside0.mk hbox; have HB := Aside0.mk hb; have L3 : Aside0 (w.heap.size ≤ g3) := ⟨(by rw [hg]; exact Nat.le_refl _)⟩; clear hg hbox hb; have z0 := (blk_cell B3.out 0).trans rfl; have z1 := (blk_cell B3.out 1).trans rfl)
        | fail)
      refine (impl_IsCounterState.calls K _ _ l0 a1_0 _ _ l1_1 true _ (Kd.C_below H1.out HB.out) HC1.out (Kd.C_below H2.out HB.out) HC2.out HK2.out).mono ?_
      rintro e w5 ⟨rfl, hb⟩
      replace HB := Aside0.mk (below_step HB.out hb)
      replace B3 := Aside0.mk (blk_below B3.out hb)
      clear z0 z1
      clear hb
      simp only [Prod.mk.injEq] at h
      obtain ⟨rfl, rfl⟩ := h
      go_wp2
      go_ret2
      exact ⟨rfl, HB.out⟩
    have d0 : decide (a2 < 0) = false := decide_eq_false hn0
    by_cases hn1 : a2 ≥ a3
    · rw [if_neg (fun h_ => by omega)] at h
      have d1 : decide (a2 ≥ a3) = true := decide_eq_true hn1
      have d1' : decide (a3 ≤ a2) = true := decide_eq_true hn1
      go_enter Try.func38, Try.ntmps38
      go_wp2_with (first
        | ((with_reducible refine gate_dst (N := 5) rfl ?_); refine box_event ?hg (N := 5) ?hd (cs := #[.int .i64 a1_0, .slice A1_1 l1_1.length c1_1]) (t := 31) ?hr ?_; (case hd => rfl); (case hg => rfl); (case hr => first | (go_simp; done) | (go_simp; rfl)); intro g3 hg w3 hbox hb; have B3 := Aside0.mk hbox; have HB := Aside0.mk hb; have L3 : Aside0 (w.heap.size ≤ g3) := ⟨(by rw [hg]; exact Nat.le_refl _)⟩; clear hg hbox hb; have z0 := (blk_cell B3.out 0).trans rfl; have z1 := (blk_cell B3.out 1).trans rfl)
        | fail)
      refine (impl_IsCounterState.calls K _ _ l0 a1_0 _ _ l1_1 true _ (Kd.C_below H1.out HB.out) HC1.out (Kd.C_below H2.out HB.out) HC2.out HK2.out).mono ?_
      rintro e w5 ⟨rfl, hb⟩
      replace HB := Aside0.mk (below_step HB.out hb)
      replace B3 := Aside0.mk (blk_below B3.out hb)
      clear z0 z1
      clear hb
      simp only [Prod.mk.injEq] at h
      obtain ⟨rfl, rfl⟩ := h
      go_wp2
      go_ret2
      exact ⟨rfl, HB.out⟩
    have d1 : decide (a2 ≥ a3) = false := decide_eq_false hn1
    have d1' : decide (a3 ≤ a2) = false := decide_eq_false hn1
    by_cases hn2 : a3 > 2000
    · rw [if_neg (fun h_ => by omega)] at h
      have d2 : decide (a3 > 2000) = true := decide_eq_true hn2
      have d2' : decide (2000 < a3) = true := decide_eq_true hn2
      go_enter Try.func38, Try.ntmps38
      go_wp2_with (first
        | ((with_reducible refine gate_dst (N := 5) rfl ?_); refine box_event ?hg (N := 5) ?hd (cs := #[.int .i64 a1_0, .slice A1_1 l1_1.length c1_1]) (t := 31) ?hr ?_; (case hd => rfl); (case hg => rfl); (case hr => first | (go_simp; done) | (go_simp; rfl)); intro g3 hg w3 hbox hb; have B3 := Aside0.mk hbox; have HB := Aside0.mk hb; have L3 : Aside0 (w.heap.size ≤ g3) := ⟨(by rw [hg]; exact Nat.le_refl _)⟩; clear hg hbox hb; have z0 := (blk_cell B3.out 0).trans rfl; have z1 := (blk_cell B3.out 1).trans rfl)
        | fail)
      refine (impl_IsCounterState.calls K _ _ l0 a1_0 _ _ l1_1 true _ (Kd.C_below H1.out HB.out) HC1.out (Kd.C_below H2.out HB.out) HC2.out HK2.out).mono ?_
      rintro e w5 ⟨rfl, hb⟩
      replace HB := Aside0.mk (below_step HB.out hb)
      replace B3 := Aside0.mk (blk_below B3.out hb)
      clear z0 z1
      clear hb
      simp only [Prod.mk.injEq] at h
      obtain ⟨rfl, rfl⟩ := h
      go_wp2
      go_ret2
      exact ⟨rfl, HB.out⟩
    have d2 : decide (a3 > 2000) = false := decide_eq_false hn2
    have d2' : decide (2000 < a3) = false := decide_eq_false hn2
    rw [if_pos ⟨hok, by omega, by omega, by omega⟩] at h
    obtain ⟨iN, rfl⟩ := Int.eq_ofNat_of_zero_le (show 0 ≤ a2 by omega)
    obtain ⟨N, rfl⟩ := Int.eq_ofNat_of_zero_le (show 0 ≤ a3 by omega)
    simp only [Int.toNat_natCast] at h
    have hik : iN < N := by omega
    have hk20 : N ≤ 2000 := by omega
    have H := Aside0.mk h
    have SO0 := Aside0.mk hok
    have HFL := Aside0.mk (statesI_full l0 N a1_0 l1_1)
    clear h
    obtain ⟨ad0, ea0, -⟩ := at_T55 H1.out (0 : Int) (by omega) (by have := hok.1.2.2.2.1; omega)
    subst ea0
    clear hok
    go_enter Try.func38, Try.ntmps38
    go_wp2_with (first
      | ((with_reducible refine gate_dst (N := 5) rfl ?_); refine box_event ?hg (N := 5) ?hd (cs := #[.int .i64 a1_0, .slice A1_1 l1_1.length c1_1]) (t := 31) ?hr ?_; (case hd => rfl); (case hg => rfl); (case hr => first | (go_simp; done) | (go_simp; rfl)); intro g3 hg w3 hbox hb; have B3 := Aside0.mk hbox; have HB := Aside0.mk hb; have L3 : Aside0 (w.heap.size ≤ g3) := ⟨(by rw [hg]; exact Nat.le_refl _)⟩; clear hg hbox hb; have z0 := (blk_cell B3.out 0).trans rfl; have z1 := (blk_cell B3.out 1).trans rfl)
      | fail)
    refine (impl_IsCounterState.calls K _ _ l0 a1_0 _ _ l1_1 true _ (Kd.C_below H1.out HB.out) HC1.out (Kd.C_below H2.out HB.out) HC2.out HK2.out).mono ?_
    rintro e w5 ⟨rfl, hb⟩
    replace HB := Aside0.mk (below_step HB.out hb)
    replace B3 := Aside0.mk (blk_below B3.out hb)
    clear z0 z1
    clear hb
    obtain ⟨⟨S1, bw⟩, hM⟩ : ∃ t, t = statesI l0 N a1_0 l1_1 := ⟨_, rfl⟩
    have HM : Aside0 (impl_statesOf.f 0 l0 a1_0 l1_1 (N : Int) = some (S1, bw)) := ⟨by rw [hM]; exact (if_pos ⟨hsm.1, hsm.2, SO0.out, by omega, by omega⟩).trans (by rw [Int.toNat_natCast])⟩
    have hSl := statesI_len (l := l0) N a1_0 l1_1
    have hSo := states_ok (l := l0) N a1_0 l1_1 SO0.out
    have hh := H.out
    rw [← hM] at hSl hSo hh HFL
    have HSN : Aside0 (bw = true → S1.length = N + 1) := ⟨HFL.out⟩
    simp only at hSl hSo hh
    have HSO := Aside0.mk hSo
    have HSL := Aside0.mk hSl
    have hS0 : 0 < S1.length := by omega
    clear hM hSl hSo H
    have z0 := (blk_cell B3.out 0).trans rfl
    have z1 := (blk_cell B3.out 1).trans rfl
    go_wp2_with fail
    refine (impl_statesOf.calls 0 _ _ l0 a1_0 _ _ l1_1 (N : Int) S1 bw _ (Kd.C_below H1.out HB.out) HC1.out (Kd.C_below H2.out HB.out) HC2.out HM.out).mono ?_
    rintro e w6 ⟨vS, rfl, hS, hb⟩
    obtain ⟨As, cs, es⟩ := Kd.S_slice hS
    subst es
    obtain ⟨_, hcs, hC6⟩ := Kd.S_reads' hS
    obtain ⟨ad, _, _, ea, -⟩ := at_T31 hC6 (0 : Int) (by omega) (by omega)
    subst ea
    have XS := Aside0.mk hC6
    have HB6 := Aside0.mk (below_step HB.out hb)
    have B36 := Aside0.mk (blk_below B3.out hb)
    clear hC6 hS hb z0 z1 B3 hcs
    clear B36
    cases bw with
    | false =>
      rw [if_neg (by simp)] at hh
      simp only [Prod.mk.injEq] at hh
      obtain ⟨rfl, rfl⟩ := hh
      go_wp2
      go_ret2
      exact ⟨rfl, HB6.out⟩
    | true =>
      have hfl : S1.length = N + 1 := HSN.out rfl
      rw [if_pos rfl] at hh
      simp only [Prod.mk.injEq] at hh
      obtain ⟨hh1, rfl⟩ := hh
      have HH := Aside0.mk hh1
      have HFN := Aside0.mk hfl
      have hi1 : iN < S1.length := by omega
      have hk1 : N < S1.length := by omega
      have HX := Aside0.mk (Below.refl w6.heap.size w6)
      clear hh1 hfl
      obtain ⟨ad_, A1, c1, ea, x01, x11, xl1, xC1⟩ := at_T31 XS.out (iN : Int) (by omega) (by omega)
      replace ea : ad = ad_ := Option.some.inj ea
      subst ea
      have hm1 := HSO.out _ (rdT_mem (S := S1) (i := (iN : Int)) (by omega) (by omega))
      rw [show rd_T31 S1 (iN : Int) = sAt S1 iN from rfl] at x01 x11 xl1 xC1 hm1
      rw [Int.toNat_natCast] at x01 x11
      obtain ⟨ln1, hln1⟩ : ∃ a, a = (sAt S1 iN).f0 := ⟨_, rfl⟩
      obtain ⟨us1, hus1⟩ : ∃ a, a = (sAt S1 iN).f1 := ⟨_, rfl⟩
      rw [← hln1] at x01 hm1
      rw [← hus1] at x11 xl1 xC1 hm1
      have XC1 := Aside0.mk xC1
      have XL1 := Aside0.mk xl1
      have SO1 := Aside0.mk hm1
      replace x01 := pw_cell_below HX.out x01
      replace x11 := pw_cell_below HX.out x11
      have EL1 := Aside0.mk (And.intro hln1 hus1)
      clear xC1 xl1 hm1 hln1 hus1
      obtain ⟨ad_, A2, c2, ea, x02, x12, xl2, xC2⟩ := at_T31 XS.out (N : Int) (by omega) (by omega)
      replace ea : ad = ad_ := Option.some.inj ea
      subst ea
      have hm2 := HSO.out _ (rdT_mem (S := S1) (i := (N : Int)) (by omega) (by omega))
      rw [show rd_T31 S1 (N : Int) = sAt S1 N from rfl] at x02 x12 xl2 xC2 hm2
      rw [Int.toNat_natCast] at x02 x12
      obtain ⟨ln2, hln2⟩ : ∃ a, a = (sAt S1 N).f0 := ⟨_, rfl⟩
      obtain ⟨us2, hus2⟩ : ∃ a, a = (sAt S1 N).f1 := ⟨_, rfl⟩
      rw [← hln2] at x02 hm2
      rw [← hus2] at x12 xl2 xC2 hm2
      have XC2 := Aside0.mk xC2
      have XL2 := Aside0.mk xl2
      have SO2 := Aside0.mk hm2
      replace x02 := pw_cell_below HX.out x02
      replace x12 := pw_cell_below HX.out x12
      have EL2 := Aside0.mk (And.intro hln2 hus2)
      clear xC2 xl2 hm2 hln2 hus2
      go_wp2
      refine start_ (n := 12) (S := fun w' => w'.cell? (ad.add (iN * 2)) = some (.int .i64 ln1) ∧ w'.cell? ⟨(ad.add (iN * 2)).block, (ad.add (iN * 2)).off + 1, none⟩ = some (.slice A1 us1.length c1) ∧ w'.cell? (ad.add (N * 2)) = some (.int .i64 ln2) ∧ w'.cell? ⟨(ad.add (N * 2)).block, (ad.add (N * 2)).off + 1, none⟩ = some (.slice A2 us2.length c2)) (ds := []) #[false, false, false, false, false, false, false, false, false, false, false, false] (by kernel_rfl) rfl rfl ⟨x01, x11, x02, x12⟩ (fun hHeld => ?_)
      refine Own.anew_ (wN := w6) (by repeat (first | with_reducible exact Below.refl _ _ | with_reducible apply below_alloc | with_reducible apply pw_below_drewN | with_reducible apply below_drew1)) hHeld (fun wz hzb hHeld => ?_)
      replace x01 := pw_cell_below hzb x01
      replace x11 := pw_cell_below hzb x11
      replace x02 := pw_cell_below hzb x02
      replace x12 := pw_cell_below hzb x12
      replace HX := Aside0.mk (below_step HX.out hzb)
      have HZ := Aside0.mk (Below.refl wz.heap.size wz)
      have lb1 := World.block_lt_of_cell? wz _ x01
      have lb2 := World.block_lt_of_cell? wz _ x02
      clear hzb
      refine pure_ (i := 0) (N := some 41) (v := ?_) (a' := ?_) #[true, false, false, false, false, false, false, false, false, false, false, false] rfl rfl (by kernel_rfl) (fun _ _ _ h => h) (Or.inl ⟨by rfl, ?_⟩) ?_ ?_
      rotate_left
      · intro w'
        go_simp
        with_reducible rfl
      rotate_left
      · simp only [Act.put, List.setIfInBounds_toArray, List.set_cons_zero, List.set_cons_succ, i64_w, i32_w]
        rfl
      refine pure_ (i := 1) (N := some 42) (v := ?_) (a' := ?_) #[true, true, false, false, false, false, false, false, false, false, false, false] rfl rfl (by kernel_rfl) (fun _ _ _ h => h) (Or.inl ⟨by rfl, ?_⟩) ?_ ?_
      rotate_left
      · intro w'
        go_simp
        with_reducible rfl
      rotate_left
      · simp only [Act.put, List.setIfInBounds_toArray, List.set_cons_zero, List.set_cons_succ, i64_w, i32_w]
        rfl
      refine pure_ (i := 2) (N := some 43) (v := ?_) (a' := ?_) #[true, true, true, false, false, false, false, false, false, false, false, false] rfl rfl (by kernel_rfl) (fun _ _ _ h => h) (Or.inl ⟨by rfl, ?_⟩) ?_ ?_
      rotate_left
      · intro w'
        go_simp
        with_reducible rfl
      rotate_left
      · simp only [Act.put, List.setIfInBounds_toArray, List.set_cons_zero, List.set_cons_succ, i64_w, i32_w]
        rfl
      refine pure_ (i := 4) (N := some 45) (v := ?_) (a' := ?_) #[true, true, true, false, true, false, false, false, false, false, false, false] rfl rfl (by kernel_rfl) (fun _ _ _ h => h) (Or.inl ⟨by rfl, ?_⟩) ?_ ?_
      rotate_left
      · intro w'
        go_simp
        with_reducible rfl
      rotate_left
      · simp only [Act.put, List.setIfInBounds_toArray, List.set_cons_zero, List.set_cons_succ, i64_w, i32_w]
        rfl
      refine pure_ (i := 5) (N := some 46) (v := ?_) (a' := ?_) #[true, true, true, false, true, true, false, false, false, false, false, false] rfl rfl (by kernel_rfl) (fun _ _ _ h => h) (Or.inl ⟨by rfl, ?_⟩) ?_ ?_
      rotate_left
      · intro w'
        go_simp
        with_reducible rfl
      rotate_left
      · simp only [Act.put, List.setIfInBounds_toArray, List.set_cons_zero, List.set_cons_succ, i64_w, i32_w]
        rfl
      refine pure_ (i := 6) (N := some 47) (v := ?_) (a' := ?_) #[true, true, true, false, true, true, true, false, false, false, false, false] rfl rfl (by kernel_rfl) (fun _ _ _ h => h) (Or.inl ⟨by rfl, ?_⟩) ?_ ?_
      rotate_left
      · intro w'
        go_simp
        with_reducible rfl
      rotate_left
      · simp only [Act.put, List.setIfInBounds_toArray, List.set_cons_zero, List.set_cons_succ, i64_w, i32_w]
        rfl
      refine take_ (i := 3) (N := some 44) (v := ?_) (a' := ?_) #[true, true, true, true, true, true, true, false, false, false, false, false] rfl rfl (by kernel_rfl) (fun _ _ _ h => h) (Or.inl ⟨by rfl, ?_⟩) hHeld ?_ ?_
      rotate_left
      · rintro w' ⟨s0, s1, s2, s3⟩
        go_simp
        with_reducible rfl
      rotate_left
      · simp only [Act.put, List.setIfInBounds_toArray, List.set_cons_zero, List.set_cons_succ, i64_w, i32_w]
        rfl
      refine take_ (i := 7) (N := some 48) (v := ?_) (a' := ?_) #[true, true, true, true, true, true, true, true, false, false, false, false] rfl rfl (by kernel_rfl) (fun _ _ _ h => h) (Or.inl ⟨by rfl, ?_⟩) hHeld ?_ ?_
      rotate_left
      · rintro w' ⟨s0, s1, s2, s3⟩
        go_simp
        with_reducible rfl
      rotate_left
      · simp only [Act.put, List.setIfInBounds_toArray, List.set_cons_zero, List.set_cons_succ, i64_w, i32_w]
        rfl
      refine join_ (σ := Nat × Nat) 0 #[true, true, true, true, true, true, true, true, true, true, true, true] (fun s_ => [(12, .pointer (some ⟨s_.1, 0, none⟩)), (13, .pointer (some ⟨s_.2, 0, none⟩))]) (fun s_ w' => (w'.cell? (ad.add (iN * 2)) = some (.int .i64 ln1) ∧ w'.cell? ⟨(ad.add (iN * 2)).block, (ad.add (iN * 2)).off + 1, none⟩ = some (.slice A1 us1.length c1) ∧ w'.cell? (ad.add (N * 2)) = some (.int .i64 ln2) ∧ w'.cell? ⟨(ad.add (N * 2)).block, (ad.add (N * 2)).off + 1, none⟩ = some (.slice A2 us2.length c2)) ∧ w'.heap[s_.1]? = some (.cells #[.int .i64 ln1, .slice A1 us1.length c1] 31 (0, 0)) ∧ w'.heap[s_.2]? = some (.cells #[.int .i64 ln2, .slice A2 us2.length c2] 31 (0, 0)) ∧ Below wz.heap.size wz w') ?_ ?_
      rotate_left
      · intro hCont
        refine two_ (i := 8) (j := 9) (Ni := some 12) (Nj := some 13) #[true, true, true, true, true, true, true, true, true, false, false, false] #[true, true, true, true, true, true, true, true, false, true, false, false] rfl rfl rfl rfl (by kernel_rfl) (by decide) (by decide) (fun K hK => ?_) (fun K hK => ?_)
        · skip
          refine box_step (by rfl) (N := 12) rfl (cs := #[.int .i64 0, .slice none 0 0]) (t := 31) ?hr ?_
          case hr => first | (go_simp; done) | (go_simp; rfl)
          intro g8 hg w8 hbox hb
          have L8 : wz.heap.size ≤ g8 := by rw [hg]; exact HZ.out.size
          replace HZ := Aside0.mk (below_step HZ.out hb)
          have B8 := Aside0.mk hbox
          clear hg hbox hb
          refine hK.out _ _ ⟨pw_cell_below HZ.out x01, pw_cell_below HZ.out x11, pw_cell_below HZ.out x02, pw_cell_below HZ.out x12⟩ (fun hHeld => ?_)
          clear hK K
          refine norm_ (a' := ?_) ?_ ?_
          rotate_left
          · show Act.put _ (some 12) _ = _
            simp only [Act.put, List.setIfInBounds_toArray, List.set_cons_zero, List.set_cons_succ, i64_w, i32_w]
            rfl
          refine one_ (i := 9) (N := some 13) #[true, true, true, true, true, true, true, true, true, true, false, false] rfl rfl (by kernel_rfl) (by decide) (fun K hK => ?_)
          refine box_step (by rfl) (N := 13) rfl (cs := #[.int .i64 0, .slice none 0 0]) (t := 31) ?hr ?_
          case hr => first | (go_simp; done) | (go_simp; rfl)
          intro g9 hg w9 hbox hb
          have L9 : wz.heap.size ≤ g9 := by rw [hg]; exact HZ.out.size
          have NE : g8 ≠ g9 := by rw [hg]; exact Nat.ne_of_lt (blk_lt B8.out)
          replace B8 := Aside0.mk (blk_below B8.out hb)
          replace HZ := Aside0.mk (below_step HZ.out hb)
          have B9 := Aside0.mk hbox
          clear hg hbox hb
          refine hK.out _ _ ⟨pw_cell_below HZ.out x01, pw_cell_below HZ.out x11, pw_cell_below HZ.out x02, pw_cell_below HZ.out x12⟩ (fun hHeld => ?_)
          clear hK K
          refine norm_ (a' := ?_) ?_ ?_
          rotate_left
          · show Act.put _ (some 13) _ = _
            simp only [Act.put, List.setIfInBounds_toArray, List.set_cons_zero, List.set_cons_succ, i64_w, i32_w]
            rfl
          refine one_ (i := 10) (N := none) #[true, true, true, true, true, true, true, true, true, true, true, false] rfl rfl (by kernel_rfl) (by decide) (fun K hK => ?_)
          have s60 := (blk_cell B8.out 0).trans rfl
          have s61 := (blk_cell B8.out 1).trans rfl
          have f60 := blk_frozen B8.out 0
          have f61 := blk_frozen B8.out 1
          refine skip_ (w1 := ?_) (by rfl) rfl ?_ ?_
          rotate_left
          · go_simp
            rfl
          refine hK.out _ _ ⟨(cell_far (p := ⟨g8, _, none⟩) (a := (ad.add (iN * 2))) (Nat.ne_of_lt (Nat.lt_of_lt_of_le lb1 L8)) _).trans ((cell_far (p := ⟨g8, _, none⟩) (a := (ad.add (iN * 2))) (Nat.ne_of_lt (Nat.lt_of_lt_of_le lb1 L8)) _).trans hHeld.1), (cell_far (p := ⟨g8, _, none⟩) (a := ⟨(ad.add (iN * 2)).block, (ad.add (iN * 2)).off + 1, none⟩) (Nat.ne_of_lt (Nat.lt_of_lt_of_le lb1 L8)) _).trans ((cell_far (p := ⟨g8, _, none⟩) (a := ⟨(ad.add (iN * 2)).block, (ad.add (iN * 2)).off + 1, none⟩) (Nat.ne_of_lt (Nat.lt_of_lt_of_le lb1 L8)) _).trans hHeld.2.1), (cell_far (p := ⟨g8, _, none⟩) (a := (ad.add (N * 2))) (Nat.ne_of_lt (Nat.lt_of_lt_of_le lb2 L8)) _).trans ((cell_far (p := ⟨g8, _, none⟩) (a := (ad.add (N * 2))) (Nat.ne_of_lt (Nat.lt_of_lt_of_le lb2 L8)) _).trans hHeld.2.2.1), (cell_far (p := ⟨g8, _, none⟩) (a := ⟨(ad.add (N * 2)).block, (ad.add (N * 2)).off + 1, none⟩) (Nat.ne_of_lt (Nat.lt_of_lt_of_le lb2 L8)) _).trans ((cell_far (p := ⟨g8, _, none⟩) (a := ⟨(ad.add (N * 2)).block, (ad.add (N * 2)).off + 1, none⟩) (Nat.ne_of_lt (Nat.lt_of_lt_of_le lb2 L8)) _).trans hHeld.2.2.2)⟩ (fun hHeld => ?_)
          clear hK K s60 s61 f60 f61
          have hz2 := below_set (j := 1) (v := .slice A1 us1.length c1) (below_set (j := 0) (v := .int .i64 ln1) HZ.out L8) L8
          have b2 := blk_put (cs := #[.int .i64 ln1, .slice none 0 0]) (blk_put (cs := #[.int .i64 0, .slice none 0 0]) B8.out 0 (.int .i64 ln1) rfl) 1 (.slice A1 us1.length c1) rfl
          replace HZ := Aside0.mk hz2
          replace B9 := Aside0.mk (blk_far (p := ⟨g8, 1, none⟩) (blk_far (p := ⟨g8, 0, none⟩) B9.out NE.symm (.int .i64 ln1)) NE.symm (.slice A1 us1.length c1))
          replace B8 := Aside0.mk b2
          clear hz2 b2
          refine one_ (i := 11) (N := none) #[true, true, true, true, true, true, true, true, true, true, true, true] rfl rfl (by kernel_rfl) (by decide) (fun K hK => ?_)
          have s60 := (blk_cell B9.out 0).trans rfl
          have s61 := (blk_cell B9.out 1).trans rfl
          have f60 := blk_frozen B9.out 0
          have f61 := blk_frozen B9.out 1
          refine skip_ (w1 := ?_) (by rfl) rfl ?_ ?_
          rotate_left
          · go_simp
            rfl
          refine hK.out _ _ ⟨(cell_far (p := ⟨g9, _, none⟩) (a := (ad.add (iN * 2))) (Nat.ne_of_lt (Nat.lt_of_lt_of_le lb1 L9)) _).trans ((cell_far (p := ⟨g9, _, none⟩) (a := (ad.add (iN * 2))) (Nat.ne_of_lt (Nat.lt_of_lt_of_le lb1 L9)) _).trans hHeld.1), (cell_far (p := ⟨g9, _, none⟩) (a := ⟨(ad.add (iN * 2)).block, (ad.add (iN * 2)).off + 1, none⟩) (Nat.ne_of_lt (Nat.lt_of_lt_of_le lb1 L9)) _).trans ((cell_far (p := ⟨g9, _, none⟩) (a := ⟨(ad.add (iN * 2)).block, (ad.add (iN * 2)).off + 1, none⟩) (Nat.ne_of_lt (Nat.lt_of_lt_of_le lb1 L9)) _).trans hHeld.2.1), (cell_far (p := ⟨g9, _, none⟩) (a := (ad.add (N * 2))) (Nat.ne_of_lt (Nat.lt_of_lt_of_le lb2 L9)) _).trans ((cell_far (p := ⟨g9, _, none⟩) (a := (ad.add (N * 2))) (Nat.ne_of_lt (Nat.lt_of_lt_of_le lb2 L9)) _).trans hHeld.2.2.1), (cell_far (p := ⟨g9, _, none⟩) (a := ⟨(ad.add (N * 2)).block, (ad.add (N * 2)).off + 1, none⟩) (Nat.ne_of_lt (Nat.lt_of_lt_of_le lb2 L9)) _).trans ((cell_far (p := ⟨g9, _, none⟩) (a := ⟨(ad.add (N * 2)).block, (ad.add (N * 2)).off + 1, none⟩) (Nat.ne_of_lt (Nat.lt_of_lt_of_le lb2 L9)) _).trans hHeld.2.2.2)⟩ (fun hHeld => ?_)
          clear hK K s60 s61 f60 f61
          have hz2 := below_set (j := 1) (v := .slice A2 us2.length c2) (below_set (j := 0) (v := .int .i64 ln2) HZ.out L9) L9
          have b2 := blk_put (cs := #[.int .i64 ln2, .slice none 0 0]) (blk_put (cs := #[.int .i64 0, .slice none 0 0]) B9.out 0 (.int .i64 ln2) rfl) 1 (.slice A2 us2.length c2) rfl
          replace HZ := Aside0.mk hz2
          replace B8 := Aside0.mk (blk_far (p := ⟨g9, 1, none⟩) (blk_far (p := ⟨g9, 0, none⟩) B8.out NE (.int .i64 ln2)) NE (.slice A2 us2.length c2))
          replace B9 := Aside0.mk b2
          clear hz2 b2
          exact norm_ (by simp only [putAll, Act.put, List.setIfInBounds_toArray, List.set_cons_zero, List.set_cons_succ]) (hCont (g8, g9) _ ⟨hHeld, B8.out, B9.out, HZ.out⟩)
        · skip
          refine box_step (by rfl) (N := 13) rfl (cs := #[.int .i64 0, .slice none 0 0]) (t := 31) ?hr ?_
          case hr => first | (go_simp; done) | (go_simp; rfl)
          intro g9 hg w9 hbox hb
          have L9 : wz.heap.size ≤ g9 := by rw [hg]; exact HZ.out.size
          replace HZ := Aside0.mk (below_step HZ.out hb)
          have B9 := Aside0.mk hbox
          clear hg hbox hb
          refine hK.out _ _ ⟨pw_cell_below HZ.out x01, pw_cell_below HZ.out x11, pw_cell_below HZ.out x02, pw_cell_below HZ.out x12⟩ (fun hHeld => ?_)
          clear hK K
          refine norm_ (a' := ?_) ?_ ?_
          rotate_left
          · show Act.put _ (some 13) _ = _
            simp only [Act.put, List.setIfInBounds_toArray, List.set_cons_zero, List.set_cons_succ, i64_w, i32_w]
            rfl
          refine one_ (i := 8) (N := some 12) #[true, true, true, true, true, true, true, true, true, true, false, false] rfl rfl (by kernel_rfl) (by decide) (fun K hK => ?_)
          refine box_step (by rfl) (N := 12) rfl (cs := #[.int .i64 0, .slice none 0 0]) (t := 31) ?hr ?_
          case hr => first | (go_simp; done) | (go_simp; rfl)
          intro g8 hg w8 hbox hb
          have L8 : wz.heap.size ≤ g8 := by rw [hg]; exact HZ.out.size
          have NE : g8 ≠ g9 := by rw [hg]; exact Nat.ne_of_gt (blk_lt B9.out)
          replace B9 := Aside0.mk (blk_below B9.out hb)
          replace HZ := Aside0.mk (below_step HZ.out hb)
          have B8 := Aside0.mk hbox
          clear hg hbox hb
          refine hK.out _ _ ⟨pw_cell_below HZ.out x01, pw_cell_below HZ.out x11, pw_cell_below HZ.out x02, pw_cell_below HZ.out x12⟩ (fun hHeld => ?_)
          clear hK K
          refine norm_ (a' := ?_) ?_ ?_
          rotate_left
          · show Act.put _ (some 12) _ = _
            simp only [Act.put, List.setIfInBounds_toArray, List.set_cons_zero, List.set_cons_succ, i64_w, i32_w]
            rfl
          refine one_ (i := 10) (N := none) #[true, true, true, true, true, true, true, true, true, true, true, false] rfl rfl (by kernel_rfl) (by decide) (fun K hK => ?_)
          have s60 := (blk_cell B8.out 0).trans rfl
          have s61 := (blk_cell B8.out 1).trans rfl
          have f60 := blk_frozen B8.out 0
          have f61 := blk_frozen B8.out 1
          refine skip_ (w1 := ?_) (by rfl) rfl ?_ ?_
          rotate_left
          · go_simp
            rfl
          refine hK.out _ _ ⟨(cell_far (p := ⟨g8, _, none⟩) (a := (ad.add (iN * 2))) (Nat.ne_of_lt (Nat.lt_of_lt_of_le lb1 L8)) _).trans ((cell_far (p := ⟨g8, _, none⟩) (a := (ad.add (iN * 2))) (Nat.ne_of_lt (Nat.lt_of_lt_of_le lb1 L8)) _).trans hHeld.1), (cell_far (p := ⟨g8, _, none⟩) (a := ⟨(ad.add (iN * 2)).block, (ad.add (iN * 2)).off + 1, none⟩) (Nat.ne_of_lt (Nat.lt_of_lt_of_le lb1 L8)) _).trans ((cell_far (p := ⟨g8, _, none⟩) (a := ⟨(ad.add (iN * 2)).block, (ad.add (iN * 2)).off + 1, none⟩) (Nat.ne_of_lt (Nat.lt_of_lt_of_le lb1 L8)) _).trans hHeld.2.1), (cell_far (p := ⟨g8, _, none⟩) (a := (ad.add (N * 2))) (Nat.ne_of_lt (Nat.lt_of_lt_of_le lb2 L8)) _).trans ((cell_far (p := ⟨g8, _, none⟩) (a := (ad.add (N * 2))) (Nat.ne_of_lt (Nat.lt_of_lt_of_le lb2 L8)) _).trans hHeld.2.2.1), (cell_far (p := ⟨g8, _, none⟩) (a := ⟨(ad.add (N * 2)).block, (ad.add (N * 2)).off + 1, none⟩) (Nat.ne_of_lt (Nat.lt_of_lt_of_le lb2 L8)) _).trans ((cell_far (p := ⟨g8, _, none⟩) (a := ⟨(ad.add (N * 2)).block, (ad.add (N * 2)).off + 1, none⟩) (Nat.ne_of_lt (Nat.lt_of_lt_of_le lb2 L8)) _).trans hHeld.2.2.2)⟩ (fun hHeld => ?_)
          clear hK K s60 s61 f60 f61
          have hz2 := below_set (j := 1) (v := .slice A1 us1.length c1) (below_set (j := 0) (v := .int .i64 ln1) HZ.out L8) L8
          have b2 := blk_put (cs := #[.int .i64 ln1, .slice none 0 0]) (blk_put (cs := #[.int .i64 0, .slice none 0 0]) B8.out 0 (.int .i64 ln1) rfl) 1 (.slice A1 us1.length c1) rfl
          replace HZ := Aside0.mk hz2
          replace B9 := Aside0.mk (blk_far (p := ⟨g8, 1, none⟩) (blk_far (p := ⟨g8, 0, none⟩) B9.out NE.symm (.int .i64 ln1)) NE.symm (.slice A1 us1.length c1))
          replace B8 := Aside0.mk b2
          clear hz2 b2
          refine one_ (i := 11) (N := none) #[true, true, true, true, true, true, true, true, true, true, true, true] rfl rfl (by kernel_rfl) (by decide) (fun K hK => ?_)
          have s60 := (blk_cell B9.out 0).trans rfl
          have s61 := (blk_cell B9.out 1).trans rfl
          have f60 := blk_frozen B9.out 0
          have f61 := blk_frozen B9.out 1
          refine skip_ (w1 := ?_) (by rfl) rfl ?_ ?_
          rotate_left
          · go_simp
            rfl
          refine hK.out _ _ ⟨(cell_far (p := ⟨g9, _, none⟩) (a := (ad.add (iN * 2))) (Nat.ne_of_lt (Nat.lt_of_lt_of_le lb1 L9)) _).trans ((cell_far (p := ⟨g9, _, none⟩) (a := (ad.add (iN * 2))) (Nat.ne_of_lt (Nat.lt_of_lt_of_le lb1 L9)) _).trans hHeld.1), (cell_far (p := ⟨g9, _, none⟩) (a := ⟨(ad.add (iN * 2)).block, (ad.add (iN * 2)).off + 1, none⟩) (Nat.ne_of_lt (Nat.lt_of_lt_of_le lb1 L9)) _).trans ((cell_far (p := ⟨g9, _, none⟩) (a := ⟨(ad.add (iN * 2)).block, (ad.add (iN * 2)).off + 1, none⟩) (Nat.ne_of_lt (Nat.lt_of_lt_of_le lb1 L9)) _).trans hHeld.2.1), (cell_far (p := ⟨g9, _, none⟩) (a := (ad.add (N * 2))) (Nat.ne_of_lt (Nat.lt_of_lt_of_le lb2 L9)) _).trans ((cell_far (p := ⟨g9, _, none⟩) (a := (ad.add (N * 2))) (Nat.ne_of_lt (Nat.lt_of_lt_of_le lb2 L9)) _).trans hHeld.2.2.1), (cell_far (p := ⟨g9, _, none⟩) (a := ⟨(ad.add (N * 2)).block, (ad.add (N * 2)).off + 1, none⟩) (Nat.ne_of_lt (Nat.lt_of_lt_of_le lb2 L9)) _).trans ((cell_far (p := ⟨g9, _, none⟩) (a := ⟨(ad.add (N * 2)).block, (ad.add (N * 2)).off + 1, none⟩) (Nat.ne_of_lt (Nat.lt_of_lt_of_le lb2 L9)) _).trans hHeld.2.2.2)⟩ (fun hHeld => ?_)
          clear hK K s60 s61 f60 f61
          have hz2 := below_set (j := 1) (v := .slice A2 us2.length c2) (below_set (j := 0) (v := .int .i64 ln2) HZ.out L9) L9
          have b2 := blk_put (cs := #[.int .i64 ln2, .slice none 0 0]) (blk_put (cs := #[.int .i64 0, .slice none 0 0]) B9.out 0 (.int .i64 ln2) rfl) 1 (.slice A2 us2.length c2) rfl
          replace HZ := Aside0.mk hz2
          replace B8 := Aside0.mk (blk_far (p := ⟨g9, 1, none⟩) (blk_far (p := ⟨g9, 0, none⟩) B8.out NE (.int .i64 ln2)) NE (.slice A2 us2.length c2))
          replace B9 := Aside0.mk b2
          clear hz2 b2
          exact norm_ (by simp only [putAll, Act.put, List.setIfInBounds_toArray, List.set_cons_zero, List.set_cons_succ]) (hCont (g8, g9) _ ⟨hHeld, B8.out, B9.out, HZ.out⟩)
      rintro ⟨g8, g9⟩ wj ⟨hHeld, hb8, hb9, hz⟩
      refine norm_ (a' := ?_) ?_ ?_
      rotate_left
      · simp only [putAll, Act.put, List.setIfInBounds_toArray, List.set_cons_zero, List.set_cons_succ]
        rfl
      refine done_ (by kernel_rfl) ?_
      have B8 := Aside0.mk hb8
      have B9 := Aside0.mk hb9
      replace HX := Aside0.mk (below_step HX.out hz)
      clear hHeld hb8 hb9 hz HZ x01 x11 x02 x12 lb1 lb2
      have hh := HH.out
      unfold endI at hh
      rw [← EL1.out.1, ← EL2.out.1, ← EL1.out.2, ← EL2.out.2] at hh
      clear HH
      have y80 : wj.cell? ⟨g8, 0, none⟩ = some (.int .i64 ln1) := (blk_cell B8.out 0).trans rfl
      have y81 : wj.cell? ⟨g8, 1, none⟩ = some (.slice A1 us1.length c1) := (blk_cell B8.out 1).trans rfl
      have y90 : wj.cell? ⟨g9, 0, none⟩ = some (.int .i64 ln2) := (blk_cell B9.out 0).trans rfl
      have y91 : wj.cell? ⟨g9, 1, none⟩ = some (.slice A2 us2.length c2) := (blk_cell B9.out 1).trans rfl
      by_cases hH1 : hLt l0 ln1
      · rw [if_pos (.inl hH1)] at hh
        have HHx1 : Aside0 (impl_hasHalted.f l0 ln1 us1 = some true) := ⟨by rw [implHalted SO1.out.1]; exact congrArg some (decide_eq_true hH1)⟩
        go_wp2_with fail
        refine (impl_hasHalted.calls _ _ l0 ln1 _ _ us1 true _ (Kd.C_below H1.out (below_step HB6.out HX.out)) HC1.out (Kd.C_below XC1.out HX.out) XL1.out HHx1.out).mono ?_
        rintro e wk1 ⟨rfl, hb⟩
        replace B8 := Aside0.mk (blk_below B8.out hb)
        replace B9 := Aside0.mk (blk_below B9.out hb)
        replace HX := Aside0.mk (below_step HX.out hb)
        clear hb y80 y81 y90 y91
        have y80 : wk1.cell? ⟨g8, 0, none⟩ = some (.int .i64 ln1) := (blk_cell B8.out 0).trans rfl
        have y81 : wk1.cell? ⟨g8, 1, none⟩ = some (.slice A1 us1.length c1) := (blk_cell B8.out 1).trans rfl
        have y90 : wk1.cell? ⟨g9, 0, none⟩ = some (.int .i64 ln2) := (blk_cell B9.out 0).trans rfl
        have y91 : wk1.cell? ⟨g9, 1, none⟩ = some (.slice A2 us2.length c2) := (blk_cell B9.out 1).trans rfl
        subst hh
        go_wp2
        go_ret2
        exact ⟨rfl, below_step HB6.out HX.out⟩
      have HHx1 : Aside0 (impl_hasHalted.f l0 ln1 us1 = some false) := ⟨by rw [implHalted SO1.out.1]; exact congrArg some (decide_eq_false hH1)⟩
      go_wp2_with fail
      refine (impl_hasHalted.calls _ _ l0 ln1 _ _ us1 false _ (Kd.C_below H1.out (below_step HB6.out HX.out)) HC1.out (Kd.C_below XC1.out HX.out) XL1.out HHx1.out).mono ?_
      rintro e wk1 ⟨rfl, hb⟩
      replace B8 := Aside0.mk (blk_below B8.out hb)
      replace B9 := Aside0.mk (blk_below B9.out hb)
      replace HX := Aside0.mk (below_step HX.out hb)
      clear hb y80 y81 y90 y91
      have y80 : wk1.cell? ⟨g8, 0, none⟩ = some (.int .i64 ln1) := (blk_cell B8.out 0).trans rfl
      have y81 : wk1.cell? ⟨g8, 1, none⟩ = some (.slice A1 us1.length c1) := (blk_cell B8.out 1).trans rfl
      have y90 : wk1.cell? ⟨g9, 0, none⟩ = some (.int .i64 ln2) := (blk_cell B9.out 0).trans rfl
      have y91 : wk1.cell? ⟨g9, 1, none⟩ = some (.slice A2 us2.length c2) := (blk_cell B9.out 1).trans rfl
      by_cases hH2 : hLt l0 ln2
      · rw [if_pos (.inr (.inl hH2))] at hh
        have HHx2 : Aside0 (impl_hasHalted.f l0 ln2 us2 = some true) := ⟨by rw [implHalted SO2.out.1]; exact congrArg some (decide_eq_true hH2)⟩
        go_wp2_with fail
        refine (impl_hasHalted.calls _ _ l0 ln2 _ _ us2 true _ (Kd.C_below H1.out (below_step HB6.out HX.out)) HC1.out (Kd.C_below XC2.out HX.out) XL2.out HHx2.out).mono ?_
        rintro e wk2 ⟨rfl, hb⟩
        replace B8 := Aside0.mk (blk_below B8.out hb)
        replace B9 := Aside0.mk (blk_below B9.out hb)
        replace HX := Aside0.mk (below_step HX.out hb)
        clear hb y80 y81 y90 y91
        have y80 : wk2.cell? ⟨g8, 0, none⟩ = some (.int .i64 ln1) := (blk_cell B8.out 0).trans rfl
        have y81 : wk2.cell? ⟨g8, 1, none⟩ = some (.slice A1 us1.length c1) := (blk_cell B8.out 1).trans rfl
        have y90 : wk2.cell? ⟨g9, 0, none⟩ = some (.int .i64 ln2) := (blk_cell B9.out 0).trans rfl
        have y91 : wk2.cell? ⟨g9, 1, none⟩ = some (.slice A2 us2.length c2) := (blk_cell B9.out 1).trans rfl
        subst hh
        go_wp2
        go_ret2
        exact ⟨rfl, below_step HB6.out HX.out⟩
      have HHx2 : Aside0 (impl_hasHalted.f l0 ln2 us2 = some false) := ⟨by rw [implHalted SO2.out.1]; exact congrArg some (decide_eq_false hH2)⟩
      go_wp2_with fail
      refine (impl_hasHalted.calls _ _ l0 ln2 _ _ us2 false _ (Kd.C_below H1.out (below_step HB6.out HX.out)) HC1.out (Kd.C_below XC2.out HX.out) XL2.out HHx2.out).mono ?_
      rintro e wk2 ⟨rfl, hb⟩
      replace B8 := Aside0.mk (blk_below B8.out hb)
      replace B9 := Aside0.mk (blk_below B9.out hb)
      replace HX := Aside0.mk (below_step HX.out hb)
      clear hb y80 y81 y90 y91
      have y80 : wk2.cell? ⟨g8, 0, none⟩ = some (.int .i64 ln1) := (blk_cell B8.out 0).trans rfl
      have y81 : wk2.cell? ⟨g8, 1, none⟩ = some (.slice A1 us1.length c1) := (blk_cell B8.out 1).trans rfl
      have y90 : wk2.cell? ⟨g9, 0, none⟩ = some (.int .i64 ln2) := (blk_cell B9.out 0).trans rfl
      have y91 : wk2.cell? ⟨g9, 1, none⟩ = some (.slice A2 us2.length c2) := (blk_cell B9.out 1).trans rfl
      by_cases hle : ln1 = ln2
      case neg => rw [if_pos (.inr (.inr hle))] at hh; have de : (ln1 == ln2) = false := by simpa using hle
                  subst hh; go_wp2; go_ret2; exact ⟨rfl, below_step HB6.out HX.out⟩
      rw [if_neg (fun h_ => h_.elim hH1 (fun h_ => h_.elim hH2 (fun h_ => h_ hle)))] at hh
      subst hle
      have de : (ln1 == ln1) = true := by simp
      clear hH1 hH2 HHx1 HHx2
      obtain ⟨KQ, hKQ⟩ := slEqual us1 us2 (by have := SO1.out.1.1.2.2.1; simp only [maxLen]; omega)
      replace hKQ := hKQ KQ (Nat.le_refl _)
      by_cases hv : us1 = us2
      · rw [if_pos hv] at hh
        subst hh
        rw [decide_eq_true hv] at hKQ
        have HQ := Aside0.mk hKQ
        clear hKQ hv
        go_wp2_with fail
        refine (slices_Equal_int_int.calls KQ _ _ us1 _ _ us2 true _ (Kd.C_below XC1.out HX.out) XL1.out (Kd.C_below XC2.out HX.out) XL2.out HQ.out).mono ?_
        rintro e wq ⟨rfl, ⟨nd, rfl⟩⟩
        have hb : Below wk2.heap.size wk2 (wk2.drewN nd) := pw_below_drewN (Below.refl _ _) nd
        replace B8 := Aside0.mk (blk_below B8.out hb)
        replace B9 := Aside0.mk (blk_below B9.out hb)
        replace HX := Aside0.mk (below_step HX.out hb)
        clear hb y80 y81 y90 y91
        generalize wk2.drewN nd = wq at B8 B9 HX ⊢
        go_wp2
        go_ret2
        exact ⟨rfl, below_step HB6.out HX.out⟩
      · rw [if_neg hv] at hh
        have HHS := Aside0.mk hh
        clear hh
        rw [decide_eq_false hv] at hKQ
        have HQ := Aside0.mk hKQ
        clear hKQ hv
        go_wp2_with fail
        refine (slices_Equal_int_int.calls KQ _ _ us1 _ _ us2 false _ (Kd.C_below XC1.out HX.out) XL1.out (Kd.C_below XC2.out HX.out) XL2.out HQ.out).mono ?_
        rintro e wq ⟨rfl, ⟨nd, rfl⟩⟩
        have hb : Below wk2.heap.size wk2 (wk2.drewN nd) := pw_below_drewN (Below.refl _ _) nd
        replace B8 := Aside0.mk (blk_below B8.out hb)
        replace B9 := Aside0.mk (blk_below B9.out hb)
        replace HX := Aside0.mk (below_step HX.out hb)
        clear hb y80 y81 y90 y91
        generalize wk2.drewN nd = wq at B8 B9 HX ⊢
        have hh := HHS.out
        clear HHS
        obtain ⟨KA, hKA⟩ := atLeast us2 us1 (by rw [SO1.out.2, SO2.out.2]) (by have := SO2.out.1.1.2.2.1; simp only [maxLen]; omega)
        have HA := Aside0.mk (hKA KA (Nat.le_refl _))
        obtain ⟨ge, hge⟩ : ∃ b, b = geL us2 us1 := ⟨_, rfl⟩
        rw [← hge] at hh HA
        have HG := Aside0.mk hh
        clear hKA hge hh HQ
        go_wp2
        go_loopw [14] (fun v14 wr => ∃ (i : Nat), v14 = .int .i64 i ∧ i ≤ N ∧ Aside0 (r1 = (noZero l0 S1 (N - i) i && ge)) ∧ Aside0 (Below w6.heap.size w6 wr) ∧ Aside0 (wr.heap[g8]? = some (.cells #[.int .i64 ln1, .slice A1 us1.length c1] 31 (0, 0))) ∧ Aside0 (wr.heap[g9]? = some (.cells #[.int .i64 ln1, .slice A2 us2.length c2] 31 (0, 0)))) (fun i _ => N - (intOf i).toNat)
        case atStart => exact ⟨iN, rfl, by omega, ⟨HG.out.symm⟩, HX, B8, B9⟩
        case round =>
          clear HX HG B8 B9
          obtain ⟨i, rfl, hi, HG, HX, B8, B9⟩ := hrel
          by_cases hlt2 : i < N
          · have hdi : decide ((i : Int) < (N : Int)) = true := decide_eq_true (by omega)
            obtain ⟨d, hd⟩ : ∃ d, N - i = d + 1 := ⟨N - i - 1, by omega⟩
            have hg := HG.out
            rw [hd, noZero] at hg
            have HD := Aside0.mk hd
            clear hd HG
            obtain ⟨ad_, A3, c3, ea, x03, x13, xl3, xC3⟩ := at_T31 XS.out (i : Int) (by omega) (by omega)
            replace ea : ad = ad_ := Option.some.inj ea
            subst ea
            have hm3 := HSO.out _ (rdT_mem (S := S1) (i := (i : Int)) (by omega) (by omega))
            rw [show rd_T31 S1 (i : Int) = sAt S1 i from rfl] at x03 x13 xl3 xC3 hm3
            rw [Int.toNat_natCast] at x03 x13
            obtain ⟨ln3, hln3⟩ : ∃ a, a = (sAt S1 i).f0 := ⟨_, rfl⟩
            obtain ⟨us3, hus3⟩ : ∃ a, a = (sAt S1 i).f1 := ⟨_, rfl⟩
            rw [← hln3] at x03 hm3
            rw [← hus3] at x13 xl3 xC3 hm3
            have XC3 := Aside0.mk xC3
            have XL3 := Aside0.mk xl3
            have SO3 := Aside0.mk hm3
            replace x03 := pw_cell_below HX.out x03
            replace x13 := pw_cell_below HX.out x13
            have EL3 := Aside0.mk (And.intro hln3 hus3)
            clear xC3 xl3 hm3 hln3 hus3
            rw [← EL3.out.1, ← EL3.out.2] at hg
            have hfd := implFound SO3.out.1
            obtain ⟨zb, hzb⟩ : ∃ z, z = zeroL l0 ln3 us3 := ⟨_, rfl⟩
            rw [← hzb] at hg hfd
            have HFD := Aside0.mk hfd
            clear hfd hzb
            go_wp2_with fail
            refine (impl_foundZero.calls _ _ l0 ln3 _ _ us3 zb _ (Kd.C_below H1.out (below_step HB6.out HX.out)) HC1.out (Kd.C_below XC3.out HX.out) XL3.out HFD.out).mono ?_
            rintro e w2 ⟨rfl, hb⟩
            replace HX := Aside0.mk (below_step HX.out hb)
            replace B8 := Aside0.mk (blk_below B8.out hb)
            replace B9 := Aside0.mk (blk_below B9.out hb)
            clear hb x03 x13 HFD
            cases zb with
            | true =>
              rw [Bool.not_true, Bool.false_and, Bool.false_and] at hg
              subst hg
              go_wp2
              go_ret2
              exact ⟨rfl, below_step HB6.out HX.out⟩
            | false =>
              rw [Bool.not_false, Bool.true_and] at hg
              have HG2 : Aside0 (r1 = (noZero l0 S1 (N - (i + 1)) (i + 1) && ge)) := ⟨by rw [show N - (i + 1) = d by have := HD.out; omega]; exact hg⟩
              clear hg
              go_wp2
              go_roundw
              case rel => first | exact ⟨i + 1, by go_num, by omega, HG2, HX, B8, B9⟩ | (repeat (first | exact ⟨⟨i + 1, by go_num, by omega, HG2, HX, B8, B9⟩, rfl⟩ | refine ⟨_, ?_⟩))
              case measure => simp [intOf]; omega
          · obtain rfl : i = N := by omega
            have hg := HG.out
            rw [Nat.sub_self, noZero, Bool.true_and] at hg
            subst hg
            have y81 : wr.cell? ⟨g8, 1, none⟩ = some (.slice A1 us1.length c1) := (blk_cell B8.out 1).trans rfl
            have y91 : wr.cell? ⟨g9, 1, none⟩ = some (.slice A2 us2.length c2) := (blk_cell B9.out 1).trans rfl
            go_wp2_with fail
            refine (impl_atLeast.calls KA _ _ us2 _ _ us1 r1 _ (Kd.C_below XC2.out HX.out) XL2.out (Kd.C_below XC1.out HX.out) XL1.out HA.out).mono ?_
            rintro e wq ⟨rfl, ⟨nd, rfl⟩⟩
            go_wp2
            go_ret2
            exact ⟨rfl, pw_below_drewN (below_step HB6.out HX.out) nd⟩
  · rw [if_neg (fun h_ => hok h_.1)] at h
    have HK2 : Aside0 (impl_IsCounterState.f K l0 a1_0 l1_1 = some false) := ⟨by rw [HK.out]; exact congrArg some (decide_eq_false hok)⟩
    clear HK
    go_enter Try.func38, Try.ntmps38
    go_wp2_with (first
      | ((with_reducible refine gate_dst (N := 5) rfl ?_); refine box_event ?hg (N := 5) ?hd (cs := #[.int .i64 a1_0, .slice A1_1 l1_1.length c1_1]) (t := 31) ?hr ?_; (case hd => rfl); (case hg => rfl); (case hr => first | (go_simp; done) | (go_simp; rfl)); intro g3 hg w3 hbox hb; have B3 := Aside0.mk hbox; have HB := Aside0.mk hb; have L3 : Aside0 (w.heap.size ≤ g3) := ⟨(by rw [hg]; exact Nat.le_refl _)⟩; clear hg hbox hb; have z0 := (blk_cell B3.out 0).trans rfl; have z1 := (blk_cell B3.out 1).trans rfl)
      | fail)
    refine (impl_IsCounterState.calls K _ _ l0 a1_0 _ _ l1_1 false _ (Kd.C_below H1.out HB.out) HC1.out (Kd.C_below H2.out HB.out) HC2.out HK2.out).mono ?_
    rintro e w5 ⟨rfl, hb⟩
    replace HB := Aside0.mk (below_step HB.out hb)
    replace B3 := Aside0.mk (blk_below B3.out hb)
    clear z0 z1
    clear hb
    simp only [Prod.mk.injEq] at h
    obtain ⟨rfl, rfl⟩ := h
    go_wp2
    go_ret2
    exact ⟨rfl, HB.out⟩
end Go.Proofs.Ytbcphkblieeemaa.P
