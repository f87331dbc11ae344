/- The walk of impl.GrowsFrom (printed by gen_run.py). -/
import Derived.Test.YtbcphkblieeemaaYFnExactGrowsFromPx23
import Derived.Test.YtbcphkblieeemaaYFnExactGrowsFromPx42
import Derived.Test.YtbcphkblieeemaaZFnExactGrowsFrom0
import Derived.Test.YtbcphkblieeemaaYFnExactGrowsFromPx55
import Derived.Test.YtbcphkblieeemaaYFnExactGrowsFromPx56
import Derived.Test.YtbcphkblieeemaaYFnExactGrowsFromVRun
import Derived.Test.YtbcphkblieeemaaYFnExactGrowsFromAFound
namespace Go.Proofs.Ytbcphkblieeemaa.P
open Go.RowKit Go.Proofs.YtbcphkblieeemaaW.PrintWords Go.Proofs.YtbcphkblieeemaaW.PrintLast Go.Proofs.YtbcphkblieeemaaW.PrintMore Go.Proofs.Ytbcphkblieeemaa.Own Go.Proofs.Ytbcphkblieeemaa.A
set_option linter.unusedVariables false
set_option linter.unusedSimpArgs false
/-! ### impl_GrowsFrom: function 36 -/
def impl_GrowsFrom.f (k : Nat) (l : List S55) (line : Int) (vs : List Int) (n : Int) : Option (Int × Int × Bool) := if l.length ≤ 1048576 ∧ vs.length ≤ 1048576 then some (if StOk l line vs ∧ 0 ≤ n ∧ n ≤ 2000 then growK l (statesI l n.toNat line vs).1 (statesI l n.toNat line vs).1.length 0 0 else (0, 0, false)) else none
set_option maxHeartbeats 4000000 in
set_option maxRecDepth 100000 in
theorem impl_GrowsFrom.calls (k : Nat) (A0 : Option Addr) (c0 : Nat) (l0 : List S55) (a1_0 : Int) (A1_1 : Option Addr) (c1_1 : Nat) (l1_1 : List Int) (a2 : Int) (r1 : Int) (r2 : Int) (r3 : Bool) (w : World) (hr0 : Kd.C k55 w A0 l0.length l0) (hc0 : l0.length ≤ c0) (hr1_1 : Kd.C (Kd.int .i64) w A1_1 l1_1.length l1_1) (hc1_1 : l1_1.length ≤ c1_1) (h : impl_GrowsFrom.f k l0 a1_0 l1_1 a2 = some (r1, r2, r3)) :
    Calls Try.prog 36 #[.slice A0 l0.length c0, .agg #[.int .i64 a1_0, .slice A1_1 l1_1.length c1_1], .int .i64 a2] w fun e w' => e = .returned (.tuple #[.int .i64 r1, .int .i64 r2, .bool r3]) ∧ Below w.heap.size w w' := by
  unfold impl_GrowsFrom.f at h
  by_cases hsm : l0.length ≤ 1048576 ∧ l1_1.length ≤ 1048576
  case neg => rw [if_neg hsm] at h; simp at h
  rw [if_pos hsm] at h
  replace h := Option.some.inj h
  have H1 := Aside0.mk hr0
  have H2 := Aside0.mk hr1_1
  have HC1 := Aside0.mk hc0
  have HC2 := Aside0.mk hc1_1
  have hu := Try.underlying31
  obtain ⟨K, hK⟩ := implIsCt l0 a1_0 l1_1 (by simp only [maxLen]; omega) (by simp only [maxLen]; omega)
  have HK : Aside0 (impl_IsCounterState.f K l0 a1_0 l1_1 = some (stOk l0 a1_0 l1_1)) := ⟨hK K (Nat.le_refl _)⟩
  clear hr0 hr1_1 hc0 hc1_1 hK
  by_cases hok : StOk l0 a1_0 l1_1
  · have HK2 : Aside0 (impl_IsCounterState.f K l0 a1_0 l1_1 = some true) := ⟨by rw [HK.out]; exact congrArg some (decide_eq_true hok)⟩
    clear HK
    by_cases hn0 : a2 < 0
    · rw [if_neg (fun h_ => by omega)] at h
      have d0 : decide (a2 < 0) = true := decide_eq_true hn0
      go_enter Try.func36, Try.ntmps36
      go_wp2_with (first
        | ((with_reducible refine gate_dst (N := 4) rfl ?_); refine box_event ?hg (N := 4) ?hd (cs := #[.int .i64 a1_0, .slice A1_1 l1_1.length c1_1]) (t := 31) ?hr ?_; (case hd => rfl); (case hg => rfl); (case hr => first | (go_simp; done) | (go_simp; rfl)); intro g3 hg w3 hbox hb; have B3 := Aside0.mk hbox; have HB := Aside0.mk hb; have L3 : Aside0 (w.heap.size ≤ g3) := ⟨(by rw [hg]; exact Nat.le_refl _)⟩; clear hg hbox hb; have z0 := (blk_cell B3.out 0).trans rfl; have z1 := (blk_cell B3.out 1).trans rfl)
        | fail)
      refine (impl_IsCounterState.calls K _ _ l0 a1_0 _ _ l1_1 true _ (Kd.C_below H1.out HB.out) HC1.out (Kd.C_below H2.out HB.out) HC2.out HK2.out).mono ?_
      rintro e w5 ⟨rfl, hb⟩
      replace HB := Aside0.mk (below_step HB.out hb)
      replace B3 := Aside0.mk (blk_below B3.out hb)
      clear z0 z1
      clear hb
      simp only [Prod.mk.injEq] at h
      obtain ⟨rfl, rfl, rfl⟩ := h
      go_wp2
      go_ret3
      exact ⟨rfl, HB.out⟩
    have d0 : decide (a2 < 0) = false := decide_eq_false hn0
    by_cases hn1 : a2 > 2000
    · rw [if_neg (fun h_ => by omega)] at h
      have d1 : decide (a2 > 2000) = true := decide_eq_true hn1
      have d1' : decide (2000 < a2) = true := decide_eq_true hn1
      go_enter Try.func36, Try.ntmps36
      go_wp2_with (first
        | ((with_reducible refine gate_dst (N := 4) rfl ?_); refine box_event ?hg (N := 4) ?hd (cs := #[.int .i64 a1_0, .slice A1_1 l1_1.length c1_1]) (t := 31) ?hr ?_; (case hd => rfl); (case hg => rfl); (case hr => first | (go_simp; done) | (go_simp; rfl)); intro g3 hg w3 hbox hb; have B3 := Aside0.mk hbox; have HB := Aside0.mk hb; have L3 : Aside0 (w.heap.size ≤ g3) := ⟨(by rw [hg]; exact Nat.le_refl _)⟩; clear hg hbox hb; have z0 := (blk_cell B3.out 0).trans rfl; have z1 := (blk_cell B3.out 1).trans rfl)
        | fail)
      refine (impl_IsCounterState.calls K _ _ l0 a1_0 _ _ l1_1 true _ (Kd.C_below H1.out HB.out) HC1.out (Kd.C_below H2.out HB.out) HC2.out HK2.out).mono ?_
      rintro e w5 ⟨rfl, hb⟩
      replace HB := Aside0.mk (below_step HB.out hb)
      replace B3 := Aside0.mk (blk_below B3.out hb)
      clear z0 z1
      clear hb
      simp only [Prod.mk.injEq] at h
      obtain ⟨rfl, rfl, rfl⟩ := h
      go_wp2
      go_ret3
      exact ⟨rfl, HB.out⟩
    have d1 : decide (a2 > 2000) = false := decide_eq_false hn1
    have d1' : decide (2000 < a2) = false := decide_eq_false hn1
    rw [if_pos ⟨hok, by omega, by omega⟩] at h
    obtain ⟨N, rfl⟩ := Int.eq_ofNat_of_zero_le (show 0 ≤ a2 by omega)
    rw [Int.toNat_natCast] at h
    have H := Aside0.mk h
    have SO0 := Aside0.mk hok
    clear h
    have hv1 : 0 < l1_1.length := by have := hok.1.2.1; omega
    have hv4 : l1_1.length ≤ 4 := by have := hok.1.2.2.1; omega
    obtain ⟨ad0, ea0, -⟩ := at_T55 H1.out (0 : Int) (by omega) (by have := hok.1.2.2.2.1; omega)
    subst ea0
    clear hok
    go_enter Try.func36, Try.ntmps36
    go_wp2_with (first
      | ((with_reducible refine gate_dst (N := 4) rfl ?_); refine box_event ?hg (N := 4) ?hd (cs := #[.int .i64 a1_0, .slice A1_1 l1_1.length c1_1]) (t := 31) ?hr ?_; (case hd => rfl); (case hg => rfl); (case hr => first | (go_simp; done) | (go_simp; rfl)); intro g3 hg w3 hbox hb; have B3 := Aside0.mk hbox; have HB := Aside0.mk hb; have L3 : Aside0 (w.heap.size ≤ g3) := ⟨(by rw [hg]; exact Nat.le_refl _)⟩; clear hg hbox hb; have z0 := (blk_cell B3.out 0).trans rfl; have z1 := (blk_cell B3.out 1).trans rfl)
      | fail)
    refine (impl_IsCounterState.calls K _ _ l0 a1_0 _ _ l1_1 true _ (Kd.C_below H1.out HB.out) HC1.out (Kd.C_below H2.out HB.out) HC2.out HK2.out).mono ?_
    rintro e w5 ⟨rfl, hb⟩
    replace HB := Aside0.mk (below_step HB.out hb)
    replace B3 := Aside0.mk (blk_below B3.out hb)
    clear z0 z1
    clear hb
    obtain ⟨⟨S1, bw⟩, hM⟩ : ∃ t, t = statesI l0 N a1_0 l1_1 := ⟨_, rfl⟩
    have HM : Aside0 (impl_statesOf.f 0 l0 a1_0 l1_1 (N : Int) = some (S1, bw)) := ⟨by rw [hM]; exact (if_pos ⟨hsm.1, hsm.2, SO0.out, by omega, by omega⟩).trans (by rw [Int.toNat_natCast])⟩
    have hSl := statesI_len (l := l0) N a1_0 l1_1
    have hSo := states_ok (l := l0) N a1_0 l1_1 SO0.out
    have hh := H.out
    rw [← hM] at hSl hSo hh
    simp only at hSl hSo hh
    have HSO := Aside0.mk hSo
    have HSL := Aside0.mk hSl
    have hS0 : 0 < S1.length := by omega
    clear hM hSl hSo H
    have z0 := (blk_cell B3.out 0).trans rfl
    have z1 := (blk_cell B3.out 1).trans rfl
    go_wp2_with fail
    refine (impl_statesOf.calls 0 _ _ l0 a1_0 _ _ l1_1 (N : Int) S1 bw _ (Kd.C_below H1.out HB.out) HC1.out (Kd.C_below H2.out HB.out) HC2.out HM.out).mono ?_
    rintro e w6 ⟨vS, rfl, hS, hb⟩
    obtain ⟨As, cs, es⟩ := Kd.S_slice hS
    subst es
    obtain ⟨_, hcs, hC6⟩ := Kd.S_reads' hS
    obtain ⟨ad, _, _, ea, -⟩ := at_T31 hC6 (0 : Int) (by omega) (by omega)
    subst ea
    have XS := Aside0.mk hC6
    have HB6 := Aside0.mk (below_step HB.out hb)
    have B36 := Aside0.mk (blk_below B3.out hb)
    clear hC6 hS hb z0 z1 B3 hcs
    have HH := Aside0.mk hh
    have HX := Aside0.mk (Below.refl w6.heap.size w6)
    clear hh B36
    go_wp2
    go_loopw [11, 36] (fun v11 v36 wr => ∃ (k first : Nat), v36 = .int .i64 k ∧ v11 = .int .i64 first ∧ k ≤ S1.length ∧ first ≤ k ∧ Aside0 (growK l0 S1 (S1.length - k) k first = (r1, r2, r3)) ∧ Aside0 (Below w6.heap.size w6 wr)) (fun _ k _ => S1.length - (intOf k).toNat)
    case atStart => exact ⟨0, 0, rfl, rfl, Nat.zero_le _, Nat.le_refl _, ⟨by rw [Nat.sub_zero]; exact HH.out⟩, HX⟩
    case round =>
      clear HH HX
      obtain ⟨k, first, rfl, rfl, hk, hfk, HH, HX⟩ := hrel
      have hk20 : k ≤ 2001 := by have := HSL.out; omega
      by_cases hlt : k < S1.length
      · have hdk : decide ((k : Int) < (S1.length : Int)) = true := decide_eq_true (by omega)
        obtain ⟨d, hd⟩ : ∃ d, S1.length - k = d + 1 := ⟨S1.length - k - 1, by omega⟩
        have hh := HH.out
        rw [hd, growK] at hh
        have HD := Aside0.mk hd
        obtain ⟨wL, rfl⟩ : ∃ x, x = wr := ⟨wr, rfl⟩
        clear hd HH
        obtain ⟨ad_, A2, c2, ea, x02, x12, xl2, xC2⟩ := at_T31 XS.out (k : Int) (by omega) (by omega)
        replace ea : ad = ad_ := Option.some.inj ea
        subst ea
        have hm2 := HSO.out _ (rdT_mem (S := S1) (i := (k : Int)) (by omega) (by omega))
        rw [show rd_T31 S1 (k : Int) = sAt S1 k from rfl] at x02 x12 xl2 xC2 hm2
        rw [Int.toNat_natCast] at x02 x12
        obtain ⟨ln2, hln2⟩ : ∃ a, a = (sAt S1 k).f0 := ⟨_, rfl⟩
        obtain ⟨us2, hus2⟩ : ∃ a, a = (sAt S1 k).f1 := ⟨_, rfl⟩
        rw [← hln2] at x02 hm2
        rw [← hus2] at x12 xl2 xC2 hm2
        have XC2 := Aside0.mk xC2
        have XL2 := Aside0.mk xl2
        have SO2 := Aside0.mk hm2
        replace x02 := pw_cell_below HX.out x02
        replace x12 := pw_cell_below HX.out x12
        have EL2 := Aside0.mk (And.intro hln2 hus2)
        clear xC2 xl2 hm2 hln2 hus2
        rw [← EL2.out.1] at hh
        have HHt := Aside0.mk (implHalted SO2.out.1)
        by_cases hH : hLt l0 ln2
        · rw [if_pos hH] at hh
          simp only [Prod.mk.injEq] at hh
          obtain ⟨rfl, rfl, rfl⟩ := hh
          have HHx : Aside0 (impl_hasHalted.f l0 ln2 us2 = some true) := ⟨by rw [HHt.out]; exact congrArg some (decide_eq_true hH)⟩
          clear hH HHt
          go_wp2_with fail
          refine (impl_hasHalted.calls _ _ l0 ln2 _ _ us2 true _ (Kd.C_below H1.out (below_step HB6.out (below_alloc HX.out _))) HC1.out (Kd.C_below XC2.out (below_alloc HX.out _)) XL2.out HHx.out).mono ?_
          rintro e w1 ⟨rfl, hb⟩
          replace HX := Aside0.mk (below_step (below_alloc HX.out _) hb)
          have BX9 := Aside0.mk (blk_below (blk_new wL (.cells #[.int .i64 ln2, .slice A2 us2.length c2] 31)) hb)
          clear hb x02 x12 HHx
          go_wp2
          go_ret3
          exact ⟨rfl, below_step HB6.out HX.out⟩
        · rw [if_neg hH] at hh
          have HHx : Aside0 (impl_hasHalted.f l0 ln2 us2 = some false) := ⟨by rw [HHt.out]; exact congrArg some (decide_eq_false hH)⟩
          clear hH HHt
          obtain ⟨ff, hff⟩ : ∃ t, t = firstOf l0 S1 k first := ⟨_, rfl⟩
          rw [← hff] at hh
          have hffk : ff ≤ k := by rw [hff]; unfold firstOf; split <;> omega
          have FF := Aside0.mk hff
          have HH := Aside0.mk hh
          clear hh hff
          rcases Nat.eq_zero_or_pos k with hk0 | hk0
          · have HFE : Aside0 (ff = first) := ⟨by rw [FF.out, firstOf, if_neg (fun h_ => by omega)]⟩
            have dk : decide ((0 : Int) < (k : Int)) = false := decide_eq_false (by omega)
            have dk2 : decide ((k : Int) > 0) = false := decide_eq_false (by omega)
            have dk3 : decide (0 < k) = false := decide_eq_false (by omega)
            have dk4 : ¬ 0 < k := by omega
            clear hk0 FF
            go_wp2_with fail
            refine (impl_hasHalted.calls _ _ l0 ln2 _ _ us2 false _ (Kd.C_below H1.out (below_step HB6.out (below_alloc HX.out _))) HC1.out (Kd.C_below XC2.out (below_alloc HX.out _)) XL2.out HHx.out).mono ?_
            rintro e w1 ⟨rfl, hb⟩
            replace HX := Aside0.mk (below_step (below_alloc HX.out _) hb)
            have BX9 := Aside0.mk (blk_below (blk_new wL (.cells #[.int .i64 ln2, .slice A2 us2.length c2] 31)) hb)
            clear hb x02 x12 HHx
            obtain ⟨fi, hfi⟩ : ∃ t, t = findI (fun i => grownI S1 i k) (k - ff) ff := ⟨_, rfl⟩
            have hh := HH.out
            rw [← hfi] at hh
            replace HH := Aside0.mk hh
            have FI := Aside0.mk hfi
            clear hh hfi
            go_wp2
            go_loopw [14] (fun v14 wr => ∃ (i : Nat), v14 = .int .i64 i ∧ i ≤ k ∧ Aside0 (findI (fun i => grownI S1 i k) (k - i) i = fi) ∧ Aside0 (Below w6.heap.size w6 wr) ∧ Aside0 (wr.heap[wL.heap.size]? = some (.cells #[.int .i64 ln2, .slice A2 us2.length c2] 31 (0, 0)))) (fun i _ => k - (intOf i).toNat)
            case atStart => exact ⟨ff, by rw [HFE.out], hffk, ⟨FI.out.symm⟩, HX, BX9⟩
            case round =>
              clear HX FI BX9
              obtain ⟨i, rfl, hi, FI, HX, BX9⟩ := hrel
              by_cases hlt2 : i < k
              · obtain ⟨e, he⟩ : ∃ e, k - i = e + 1 := ⟨k - i - 1, by omega⟩
                have hfi := FI.out
                rw [he, findI] at hfi
                have HE := Aside0.mk he
                clear he FI
                have hdi : decide ((i : Int) < (k : Int)) = true := decide_eq_true (by omega)
                have hiS : i < S1.length := by omega
                obtain ⟨ad_, A1, c1, ea, x01, x11, xl1, xC1⟩ := at_T31 XS.out (i : Int) (by omega) (by omega)
                replace ea : ad = ad_ := Option.some.inj ea
                subst ea
                have hm1 := HSO.out _ (rdT_mem (S := S1) (i := (i : Int)) (by omega) (by omega))
                rw [show rd_T31 S1 (i : Int) = sAt S1 i from rfl] at x01 x11 xl1 xC1 hm1
                rw [Int.toNat_natCast] at x01 x11
                obtain ⟨ln1, hln1⟩ : ∃ a, a = (sAt S1 i).f0 := ⟨_, rfl⟩
                obtain ⟨us1, hus1⟩ : ∃ a, a = (sAt S1 i).f1 := ⟨_, rfl⟩
                rw [← hln1] at x01 hm1
                rw [← hus1] at x11 xl1 xC1 hm1
                have XC1 := Aside0.mk xC1
                have XL1 := Aside0.mk xl1
                have SO1 := Aside0.mk hm1
                replace x01 := pw_cell_below HX.out x01
                replace x11 := pw_cell_below HX.out x11
                have EL1 := Aside0.mk (And.intro hln1 hus1)
                clear xC1 xl1 hm1 hln1 hus1
                have hgp : grownI S1 i k = (decide (ln1 = ln2) && geL us2 us1) := by unfold grownI; rw [← EL1.out.1, ← EL1.out.2, ← EL2.out.1, ← EL2.out.2]
                rw [hgp] at hfi
                obtain ⟨KA, hKA⟩ := atLeast us2 us1 (by rw [SO1.out.2, SO2.out.2]) (by have := SO2.out.1.1.2.2.1; simp only [maxLen]; omega)
                have HA := Aside0.mk (hKA KA (Nat.le_refl _))
                obtain ⟨ge, hge⟩ : ∃ b, b = geL us2 us1 := ⟨_, rfl⟩
                rw [← hge] at hfi HA
                clear hgp hKA hge
                have y0 := (blk_cell BX9.out 0).trans rfl
                have y1 := (blk_cell BX9.out 1).trans rfl
                by_cases hle : ln1 = ln2
                · have de : (ln1 == ln2) = true := by simpa using hle
                  have de2 : decide (ln1 = ln2) = true := decide_eq_true hle
                  rw [de2, Bool.true_and] at hfi
                  have HFI := Aside0.mk hfi
                  clear hfi hle
                  go_wp2
                  refine start_ (n := 18) (S := fun w' => w'.cell? (ad.add (i * 2)) = some (.int .i64 ln1) ∧ w'.cell? ⟨(ad.add (i * 2)).block, (ad.add (i * 2)).off + 1, none⟩ = some (.slice A1 us1.length c1) ∧ w'.cell? ⟨wL.heap.size, 0, none⟩ = some (.int .i64 ln2) ∧ w'.cell? ⟨wL.heap.size, 1, none⟩ = some (.slice A2 us2.length c2)) (ds := []) #[false, false, false, false, false, false, false, false, false, false, false, false, false, false, false, false, false, false] (by kernel_rfl) rfl rfl ⟨x01, x11, y0, y1⟩ (fun hHeld => ?_)
                  refine Own.anew_ (wN := wr) (by repeat (first | with_reducible exact Below.refl _ _ | with_reducible apply below_alloc | with_reducible apply pw_below_drewN | with_reducible apply below_drew1)) hHeld (fun wz hzb hHeld => ?_)
                  replace x01 := pw_cell_below hzb x01
                  replace x11 := pw_cell_below hzb x11
                  replace y0 := pw_cell_below hzb y0
                  replace y1 := pw_cell_below hzb y1
                  replace HX := Aside0.mk (below_step HX.out hzb)
                  replace BX9 := Aside0.mk (blk_below BX9.out hzb)
                  clear hzb
                  refine pure_ (i := 0) (N := some 62) (v := ?_) (a' := ?_) #[true, false, false, false, false, false, false, false, false, false, false, false, false, false, false, false, false, false] rfl rfl (by kernel_rfl) (fun _ _ _ h => h) (Or.inl ⟨by rfl, ?_⟩) ?_ ?_
                  rotate_left
                  · intro w'
                    go_simp
                    with_reducible rfl
                  rotate_left
                  · simp only [Act.put, List.setIfInBounds_toArray, List.set_cons_zero, List.set_cons_succ, i64_w, i32_w]
                    rfl
                  refine pure_ (i := 1) (N := some 63) (v := ?_) (a' := ?_) #[true, true, false, false, false, false, false, false, false, false, false, false, false, false, false, false, false, false] rfl rfl (by kernel_rfl) (fun _ _ _ h => h) (Or.inl ⟨by rfl, ?_⟩) ?_ ?_
                  rotate_left
                  · intro w'
                    go_simp
                    with_reducible rfl
                  rotate_left
                  · simp only [Act.put, List.setIfInBounds_toArray, List.set_cons_zero, List.set_cons_succ, i64_w, i32_w]
                    rfl
                  refine pure_ (i := 2) (N := some 64) (v := ?_) (a' := ?_) #[true, true, true, false, false, false, false, false, false, false, false, false, false, false, false, false, false, false] rfl rfl (by kernel_rfl) (fun _ _ _ h => h) (Or.inl ⟨by rfl, ?_⟩) ?_ ?_
                  rotate_left
                  · intro w'
                    go_simp
                    with_reducible rfl
                  rotate_left
                  · simp only [Act.put, List.setIfInBounds_toArray, List.set_cons_zero, List.set_cons_succ, i64_w, i32_w]
                    rfl
                  refine pure_ (i := 3) (N := some 65) (v := ?_) (a' := ?_) #[true, true, true, true, false, false, false, false, false, false, false, false, false, false, false, false, false, false] rfl rfl (by kernel_rfl) (fun _ _ _ h => h) (Or.inl ⟨by rfl, ?_⟩) ?_ ?_
                  rotate_left
                  · intro w'
                    go_simp
                    with_reducible rfl
                  rotate_left
                  · simp only [Act.put, List.setIfInBounds_toArray, List.set_cons_zero, List.set_cons_succ, i64_w, i32_w]
                    rfl
                  refine pure_ (i := 5) (N := some 67) (v := ?_) (a' := ?_) #[true, true, true, true, false, true, false, false, false, false, false, false, false, false, false, false, false, false] rfl rfl (by kernel_rfl) (fun _ _ _ h => h) (Or.inl ⟨by rfl, ?_⟩) ?_ ?_
                  rotate_left
                  · intro w'
                    go_simp
                    with_reducible rfl
                  rotate_left
                  · simp only [Act.put, List.setIfInBounds_toArray, List.set_cons_zero, List.set_cons_succ, i64_w, i32_w]
                    rfl
                  refine take_ (i := 4) (N := some 66) (v := ?_) (a' := ?_) #[true, true, true, true, true, true, false, false, false, false, false, false, false, false, false, false, false, false] rfl rfl (by kernel_rfl) (fun _ _ _ h => h) (Or.inl ⟨by rfl, ?_⟩) hHeld ?_ ?_
                  rotate_left
                  · rintro w' ⟨s0, s1, s2, s3⟩
                    go_simp
                    with_reducible rfl
                  rotate_left
                  · simp only [Act.put, List.setIfInBounds_toArray, List.set_cons_zero, List.set_cons_succ, i64_w, i32_w]
                    rfl
                  refine take_ (i := 6) (N := some 68) (v := ?_) (a' := ?_) #[true, true, true, true, true, true, true, false, false, false, false, false, false, false, false, false, false, false] rfl rfl (by kernel_rfl) (fun _ _ _ h => h) (Or.inl ⟨by rfl, ?_⟩) hHeld ?_ ?_
                  rotate_left
                  · rintro w' ⟨s0, s1, s2, s3⟩
                    go_simp
                    with_reducible rfl
                  rotate_left
                  · simp only [Act.put, List.setIfInBounds_toArray, List.set_cons_zero, List.set_cons_succ, i64_w, i32_w]
                    rfl
                  refine pure_ (i := 7) (N := some 69) (v := ?_) (a' := ?_) #[true, true, true, true, true, true, true, true, false, false, false, false, false, false, false, false, false, false] rfl rfl (by kernel_rfl) (fun _ _ _ h => h) (Or.inl ⟨by rfl, ?_⟩) ?_ ?_
                  rotate_left
                  · intro w'
                    go_simp
                    with_reducible rfl
                  rotate_left
                  · simp only [Act.put, List.setIfInBounds_toArray, List.set_cons_zero, List.set_cons_succ, i64_w, i32_w]
                    rfl
                  refine pure_ (i := 8) (N := some 70) (v := ?_) (a' := ?_) #[true, true, true, true, true, true, true, true, true, false, false, false, false, false, false, false, false, false] rfl rfl (by kernel_rfl) (fun _ _ _ h => h) (Or.inl ⟨by rfl, ?_⟩) ?_ ?_
                  rotate_left
                  · intro w'
                    go_simp
                    with_reducible rfl
                  rotate_left
                  · simp only [Act.put, List.setIfInBounds_toArray, List.set_cons_zero, List.set_cons_succ, i64_w, i32_w]
                    rfl
                  refine pure_ (i := 9) (N := some 71) (v := ?_) (a' := ?_) #[true, true, true, true, true, true, true, true, true, true, false, false, false, false, false, false, false, false] rfl rfl (by kernel_rfl) (fun _ _ _ h => h) (Or.inl ⟨by rfl, ?_⟩) ?_ ?_
                  rotate_left
                  · intro w'
                    go_simp
                    with_reducible rfl
                  rotate_left
                  · simp only [Act.put, List.setIfInBounds_toArray, List.set_cons_zero, List.set_cons_succ, i64_w, i32_w]
                    rfl
                  refine pure_ (i := 11) (N := some 73) (v := ?_) (a' := ?_) #[true, true, true, true, true, true, true, true, true, true, false, true, false, false, false, false, false, false] rfl rfl (by kernel_rfl) (fun _ _ _ h => h) (Or.inl ⟨by rfl, ?_⟩) ?_ ?_
                  rotate_left
                  · intro w'
                    go_simp
                    with_reducible rfl
                  rotate_left
                  · simp only [Act.put, List.setIfInBounds_toArray, List.set_cons_zero, List.set_cons_succ, i64_w, i32_w]
                    rfl
                  refine pure_ (i := 12) (N := some 74) (v := ?_) (a' := ?_) #[true, true, true, true, true, true, true, true, true, true, false, true, true, false, false, false, false, false] rfl rfl (by kernel_rfl) (fun _ _ _ h => h) (Or.inl ⟨by rfl, ?_⟩) ?_ ?_
                  rotate_left
                  · intro w'
                    go_simp
                    with_reducible rfl
                  rotate_left
                  · simp only [Act.put, List.setIfInBounds_toArray, List.set_cons_zero, List.set_cons_succ, i64_w, i32_w]
                    rfl
                  refine take_ (i := 10) (N := some 72) (v := ?_) (a' := ?_) #[true, true, true, true, true, true, true, true, true, true, true, true, true, false, false, false, false, false] rfl rfl (by kernel_rfl) (fun _ _ _ h => h) (Or.inl ⟨by rfl, ?_⟩) hHeld ?_ ?_
                  rotate_left
                  · rintro w' ⟨s0, s1, s2, s3⟩
                    go_simp
                    with_reducible rfl
                  rotate_left
                  · simp only [Act.put, List.setIfInBounds_toArray, List.set_cons_zero, List.set_cons_succ, i64_w, i32_w]
                    rfl
                  refine pure_ (i := 13) (N := some 75) (v := ?_) (a' := ?_) #[true, true, true, true, true, true, true, true, true, true, true, true, true, true, false, false, false, false] rfl rfl (by kernel_rfl) (fun _ _ _ h => h) (Or.inl ⟨by rfl, ?_⟩) ?_ ?_
                  rotate_left
                  · intro w'
                    go_simp
                    with_reducible rfl
                  rotate_left
                  · simp only [Act.put, List.setIfInBounds_toArray, List.set_cons_zero, List.set_cons_succ, i64_w, i32_w]
                    rfl
                  refine pure_ (i := 14) (N := some 76) (v := ?_) (a' := ?_) #[true, true, true, true, true, true, true, true, true, true, true, true, true, true, true, false, false, false] rfl rfl (by kernel_rfl) (fun _ _ _ h => h) (Or.inl ⟨by rfl, ?_⟩) ?_ ?_
                  rotate_left
                  · intro w'
                    go_simp
                    with_reducible rfl
                  rotate_left
                  · simp only [Act.put, List.setIfInBounds_toArray, List.set_cons_zero, List.set_cons_succ, i64_w, i32_w]
                    rfl
                  refine take_ (i := 15) (N := some 77) (v := ?_) (a' := ?_) #[true, true, true, true, true, true, true, true, true, true, true, true, true, true, true, true, false, false] rfl rfl (by kernel_rfl) (fun _ _ _ h => h) (Or.inl ⟨by rfl, ?_⟩) hHeld ?_ ?_
                  rotate_left
                  · rintro w' ⟨s0, s1, s2, s3⟩
                    go_simp
                    with_reducible rfl
                  rotate_left
                  · simp only [Act.put, List.setIfInBounds_toArray, List.set_cons_zero, List.set_cons_succ, i64_w, i32_w]
                    rfl
                  refine one_ (i := 16) (N := some 78) #[true, true, true, true, true, true, true, true, true, true, true, true, true, true, true, true, true, false] rfl rfl (by kernel_rfl) (by decide) (fun K hK => ?_)
                  refine goes_ Try.func56 (by kernel_rfl) rfl #[.slice A2 us2.length c2, .slice A1 us1.length c1] (by rfl) rfl rfl (by (try simp only [List.map_toArray, List.map_cons, List.map_nil]); first | done | rfl) ?_
                  with_reducible refine (impl_atLeast.calls KA _ _ us2 _ _ us1 ge _ (Kd.C_below XC2.out HX.out) XL2.out (Kd.C_below XC1.out HX.out) XL1.out HA.out).mono ?_
                  rintro e_ wb ⟨rfl, ⟨nd, rfl⟩⟩
                  refine ⟨_, rfl, ?_⟩
                  have hb : Below wz.heap.size wz (wz.drewN nd) := pw_below_drewN (Below.refl _ _) nd
                  replace x01 := pw_cell_below hb x01
                  replace x11 := pw_cell_below hb x11
                  replace y0 := pw_cell_below hb y0
                  replace y1 := pw_cell_below hb y1
                  replace HX := Aside0.mk (below_step HX.out hb)
                  replace BX9 := Aside0.mk (blk_below BX9.out hb)
                  generalize wz.drewN nd = wb at x01 x11 y0 y1 HX BX9 ⊢
                  clear hb
                  refine hK.out _ _ ⟨x01, x11, y0, y1⟩ (fun hHeld => ?_)
                  clear hK K
                  refine norm_ (a' := ?_) ?_ ?_
                  rotate_left
                  · show Act.put _ (some 78) _ = _
                    simp only [Act.put, List.setIfInBounds_toArray, List.set_cons_zero, List.set_cons_succ, i64_w, i32_w]
                    rfl
                  refine pure_ (i := 17) (N := some 79) (v := ?_) (a' := ?_) #[true, true, true, true, true, true, true, true, true, true, true, true, true, true, true, true, true, true] rfl rfl (by kernel_rfl) (fun _ _ _ h => h) (Or.inl ⟨by rfl, ?_⟩) ?_ ?_
                  rotate_left
                  · intro w'
                    go_simp
                    with_reducible rfl
                  rotate_left
                  · simp only [Act.put, List.setIfInBounds_toArray, List.set_cons_zero, List.set_cons_succ, i64_w, i32_w]
                    rfl
                  refine done_ (by kernel_rfl) ?_
                  clear hHeld x01 x11 y0 y1
                  cases ge with
                  | true =>
                    have hfi := HFI.out
                    rw [if_pos rfl] at hfi
                    subst hfi
                    have hh := HH.out
                    simp only [Prod.mk.injEq] at hh
                    obtain ⟨rfl, rfl, rfl⟩ := hh
                    go_wp2
                    go_ret3
                    exact ⟨rfl, below_step HB6.out HX.out⟩
                  | false =>
                    have hf2 := HFI.out
                    rw [if_neg (by simp)] at hf2
                    have FI2 : Aside0 (findI (fun i => grownI S1 i k) (k - (i + 1)) (i + 1) = fi) := ⟨by rw [show k - (i + 1) = e by have := HE.out; omega]; exact hf2⟩
                    clear hf2 HFI
                    go_wp2
                    go_roundw
                    case rel => first | exact ⟨i + 1, by go_num, by omega, FI2, HX, BX9⟩ | (repeat (first | exact ⟨⟨i + 1, by go_num, by omega, FI2, HX, BX9⟩, rfl⟩ | refine ⟨_, ?_⟩))
                    case measure => simp [intOf]; omega
                · have de : (ln1 == ln2) = false := by simpa using hle
                  have de2 : decide (ln1 = ln2) = false := decide_eq_false hle
                  rw [de2, Bool.false_and] at hfi
                  have HFI := Aside0.mk hfi
                  clear hfi hle
                  go_wp2
                  refine start_ (n := 18) (S := fun w' => w'.cell? (ad.add (i * 2)) = some (.int .i64 ln1) ∧ w'.cell? ⟨(ad.add (i * 2)).block, (ad.add (i * 2)).off + 1, none⟩ = some (.slice A1 us1.length c1) ∧ w'.cell? ⟨wL.heap.size, 0, none⟩ = some (.int .i64 ln2) ∧ w'.cell? ⟨wL.heap.size, 1, none⟩ = some (.slice A2 us2.length c2)) (ds := []) #[false, false, false, false, false, false, false, false, false, false, false, false, false, false, false, false, false, false] (by kernel_rfl) rfl rfl ⟨x01, x11, y0, y1⟩ (fun hHeld => ?_)
                  refine Own.anew_ (wN := wr) (by repeat (first | with_reducible exact Below.refl _ _ | with_reducible apply below_alloc | with_reducible apply pw_below_drewN | with_reducible apply below_drew1)) hHeld (fun wz hzb hHeld => ?_)
                  replace x01 := pw_cell_below hzb x01
                  replace x11 := pw_cell_below hzb x11
                  replace y0 := pw_cell_below hzb y0
                  replace y1 := pw_cell_below hzb y1
                  replace HX := Aside0.mk (below_step HX.out hzb)
                  replace BX9 := Aside0.mk (blk_below BX9.out hzb)
                  clear hzb
                  refine pure_ (i := 0) (N := some 62) (v := ?_) (a' := ?_) #[true, false, false, false, false, false, false, false, false, false, false, false, false, false, false, false, false, false] rfl rfl (by kernel_rfl) (fun _ _ _ h => h) (Or.inl ⟨by rfl, ?_⟩) ?_ ?_
                  rotate_left
                  · intro w'
                    go_simp
                    with_reducible rfl
                  rotate_left
                  · simp only [Act.put, List.setIfInBounds_toArray, List.set_cons_zero, List.set_cons_succ, i64_w, i32_w]
                    rfl
                  refine pure_ (i := 1) (N := some 63) (v := ?_) (a' := ?_) #[true, true, false, false, false, false, false, false, false, false, false, false, false, false, false, false, false, false] rfl rfl (by kernel_rfl) (fun _ _ _ h => h) (Or.inl ⟨by rfl, ?_⟩) ?_ ?_
                  rotate_left
                  · intro w'
                    go_simp
                    with_reducible rfl
                  rotate_left
                  · simp only [Act.put, List.setIfInBounds_toArray, List.set_cons_zero, List.set_cons_succ, i64_w, i32_w]
                    rfl
                  refine pure_ (i := 2) (N := some 64) (v := ?_) (a' := ?_) #[true, true, true, false, false, false, false, false, false, false, false, false, false, false, false, false, false, false] rfl rfl (by kernel_rfl) (fun _ _ _ h => h) (Or.inl ⟨by rfl, ?_⟩) ?_ ?_
                  rotate_left
                  · intro w'
                    go_simp
                    with_reducible rfl
                  rotate_left
                  · simp only [Act.put, List.setIfInBounds_toArray, List.set_cons_zero, List.set_cons_succ, i64_w, i32_w]
                    rfl
                  refine pure_ (i := 3) (N := some 65) (v := ?_) (a' := ?_) #[true, true, true, true, false, false, false, false, false, false, false, false, false, false, false, false, false, false] rfl rfl (by kernel_rfl) (fun _ _ _ h => h) (Or.inl ⟨by rfl, ?_⟩) ?_ ?_
                  rotate_left
                  · intro w'
                    go_simp
                    with_reducible rfl
                  rotate_left
                  · simp only [Act.put, List.setIfInBounds_toArray, List.set_cons_zero, List.set_cons_succ, i64_w, i32_w]
                    rfl
                  refine pure_ (i := 5) (N := some 67) (v := ?_) (a' := ?_) #[true, true, true, true, false, true, false, false, false, false, false, false, false, false, false, false, false, false] rfl rfl (by kernel_rfl) (fun _ _ _ h => h) (Or.inl ⟨by rfl, ?_⟩) ?_ ?_
                  rotate_left
                  · intro w'
                    go_simp
                    with_reducible rfl
                  rotate_left
                  · simp only [Act.put, List.setIfInBounds_toArray, List.set_cons_zero, List.set_cons_succ, i64_w, i32_w]
                    rfl
                  refine take_ (i := 4) (N := some 66) (v := ?_) (a' := ?_) #[true, true, true, true, true, true, false, false, false, false, false, false, false, false, false, false, false, false] rfl rfl (by kernel_rfl) (fun _ _ _ h => h) (Or.inl ⟨by rfl, ?_⟩) hHeld ?_ ?_
                  rotate_left
                  · rintro w' ⟨s0, s1, s2, s3⟩
                    go_simp
                    with_reducible rfl
                  rotate_left
                  · simp only [Act.put, List.setIfInBounds_toArray, List.set_cons_zero, List.set_cons_succ, i64_w, i32_w]
                    rfl
                  refine take_ (i := 6) (N := some 68) (v := ?_) (a' := ?_) #[true, true, true, true, true, true, true, false, false, false, false, false, false, false, false, false, false, false] rfl rfl (by kernel_rfl) (fun _ _ _ h => h) (Or.inl ⟨by rfl, ?_⟩) hHeld ?_ ?_
                  rotate_left
                  · rintro w' ⟨s0, s1, s2, s3⟩
                    go_simp
                    with_reducible rfl
                  rotate_left
                  · simp only [Act.put, List.setIfInBounds_toArray, List.set_cons_zero, List.set_cons_succ, i64_w, i32_w]
                    rfl
                  refine pure_ (i := 7) (N := some 69) (v := ?_) (a' := ?_) #[true, true, true, true, true, true, true, true, false, false, false, false, false, false, false, false, false, false] rfl rfl (by kernel_rfl) (fun _ _ _ h => h) (Or.inl ⟨by rfl, ?_⟩) ?_ ?_
                  rotate_left
                  · intro w'
                    go_simp
                    with_reducible rfl
                  rotate_left
                  · simp only [Act.put, List.setIfInBounds_toArray, List.set_cons_zero, List.set_cons_succ, i64_w, i32_w]
                    rfl
                  refine pure_ (i := 8) (N := some 70) (v := ?_) (a' := ?_) #[true, true, true, true, true, true, true, true, true, false, false, false, false, false, false, false, false, false] rfl rfl (by kernel_rfl) (fun _ _ _ h => h) (Or.inl ⟨by rfl, ?_⟩) ?_ ?_
                  rotate_left
                  · intro w'
                    go_simp
                    with_reducible rfl
                  rotate_left
                  · simp only [Act.put, List.setIfInBounds_toArray, List.set_cons_zero, List.set_cons_succ, i64_w, i32_w]
                    rfl
                  refine pure_ (i := 9) (N := some 71) (v := undef) (a' := ?_) #[true, true, true, true, true, true, true, true, true, true, false, false, false, false, false, false, false, false] rfl rfl (by kernel_rfl) (fun _ _ _ h => h) (Or.inr ⟨by rfl, rfl⟩) ?_ ?_
                  rotate_left
                  · simp only [Act.put, List.setIfInBounds_toArray, List.set_cons_zero, List.set_cons_succ, i64_w, i32_w]
                    rfl
                  refine pure_ (i := 10) (N := some 72) (v := undef) (a' := ?_) #[true, true, true, true, true, true, true, true, true, true, true, false, false, false, false, false, false, false] rfl rfl (by kernel_rfl) (fun _ _ _ h => h) (Or.inr ⟨by rfl, rfl⟩) ?_ ?_
                  rotate_left
                  · simp only [Act.put, List.setIfInBounds_toArray, List.set_cons_zero, List.set_cons_succ, i64_w, i32_w]
                    rfl
                  refine pure_ (i := 11) (N := some 73) (v := undef) (a' := ?_) #[true, true, true, true, true, true, true, true, true, true, true, true, false, false, false, false, false, false] rfl rfl (by kernel_rfl) (fun _ _ _ h => h) (Or.inr ⟨by rfl, rfl⟩) ?_ ?_
                  rotate_left
                  · simp only [Act.put, List.setIfInBounds_toArray, List.set_cons_zero, List.set_cons_succ, i64_w, i32_w]
                    rfl
                  refine pure_ (i := 12) (N := some 74) (v := undef) (a' := ?_) #[true, true, true, true, true, true, true, true, true, true, true, true, true, false, false, false, false, false] rfl rfl (by kernel_rfl) (fun _ _ _ h => h) (Or.inr ⟨by rfl, rfl⟩) ?_ ?_
                  rotate_left
                  · simp only [Act.put, List.setIfInBounds_toArray, List.set_cons_zero, List.set_cons_succ, i64_w, i32_w]
                    rfl
                  refine pure_ (i := 13) (N := some 75) (v := undef) (a' := ?_) #[true, true, true, true, true, true, true, true, true, true, true, true, true, true, false, false, false, false] rfl rfl (by kernel_rfl) (fun _ _ _ h => h) (Or.inr ⟨by rfl, rfl⟩) ?_ ?_
                  rotate_left
                  · simp only [Act.put, List.setIfInBounds_toArray, List.set_cons_zero, List.set_cons_succ, i64_w, i32_w]
                    rfl
                  refine pure_ (i := 14) (N := some 76) (v := undef) (a' := ?_) #[true, true, true, true, true, true, true, true, true, true, true, true, true, true, true, false, false, false] rfl rfl (by kernel_rfl) (fun _ _ _ h => h) (Or.inr ⟨by rfl, rfl⟩) ?_ ?_
                  rotate_left
                  · simp only [Act.put, List.setIfInBounds_toArray, List.set_cons_zero, List.set_cons_succ, i64_w, i32_w]
                    rfl
                  refine pure_ (i := 15) (N := some 77) (v := undef) (a' := ?_) #[true, true, true, true, true, true, true, true, true, true, true, true, true, true, true, true, false, false] rfl rfl (by kernel_rfl) (fun _ _ _ h => h) (Or.inr ⟨by rfl, rfl⟩) ?_ ?_
                  rotate_left
                  · simp only [Act.put, List.setIfInBounds_toArray, List.set_cons_zero, List.set_cons_succ, i64_w, i32_w]
                    rfl
                  refine pure_ (i := 16) (N := some 78) (v := undef) (a' := ?_) #[true, true, true, true, true, true, true, true, true, true, true, true, true, true, true, true, true, false] rfl rfl (by kernel_rfl) (fun _ _ _ h => h) (Or.inr ⟨by rfl, rfl⟩) ?_ ?_
                  rotate_left
                  · simp only [Act.put, List.setIfInBounds_toArray, List.set_cons_zero, List.set_cons_succ, i64_w, i32_w]
                    rfl
                  refine pure_ (i := 17) (N := some 79) (v := ?_) (a' := ?_) #[true, true, true, true, true, true, true, true, true, true, true, true, true, true, true, true, true, true] rfl rfl (by kernel_rfl) (fun _ _ _ h => h) (Or.inl ⟨by rfl, ?_⟩) ?_ ?_
                  rotate_left
                  · intro w'
                    go_simp
                    with_reducible rfl
                  rotate_left
                  · simp only [Act.put, List.setIfInBounds_toArray, List.set_cons_zero, List.set_cons_succ, i64_w, i32_w]
                    rfl
                  refine done_ (by kernel_rfl) ?_
                  clear hHeld x01 x11 y0 y1
                  have hf2 := HFI.out
                  rw [if_neg (by simp)] at hf2
                  have FI2 : Aside0 (findI (fun i => grownI S1 i k) (k - (i + 1)) (i + 1) = fi) := ⟨by rw [show k - (i + 1) = e by have := HE.out; omega]; exact hf2⟩
                  clear hf2 HFI
                  go_wp2
                  go_roundw
                  case rel => first | exact ⟨i + 1, by go_num, by omega, FI2, HX, BX9⟩ | (repeat (first | exact ⟨⟨i + 1, by go_num, by omega, FI2, HX, BX9⟩, rfl⟩ | refine ⟨_, ?_⟩))
                  case measure => simp [intOf]; omega
              · obtain rfl : i = k := by omega
                have hfi := FI.out
                rw [Nat.sub_self, findI] at hfi
                subst hfi
                have hh := HH.out
                simp only at hh
                have HH2 : Aside0 (growK l0 S1 (S1.length - (i + 1)) (i + 1) ff = (r1, r2, r3)) := ⟨by rw [show S1.length - (i + 1) = d by have := HD.out; omega]; exact hh⟩
                clear hh
                go_wp2
                go_roundw
                case rel => first | exact ⟨i + 1, ff, by go_num, by rw [HFE.out], by omega, by omega, HH2, HX⟩ | (repeat (first | exact ⟨⟨i + 1, ff, by go_num, by rw [HFE.out], by omega, by omega, HH2, HX⟩, rfl⟩ | refine ⟨_, ?_⟩))
                case measure => simp [intOf]; omega
          · obtain ⟨k1, hk1⟩ : ∃ k1, k = k1 + 1 := ⟨k - 1, by omega⟩
            have dk : decide ((0 : Int) < (k : Int)) = true := decide_eq_true (by omega)
            have dk2 : decide ((k : Int) > 0) = true := decide_eq_true (by omega)
            have dk3 : 0 < k := hk0
            have hkw : wrap64 ((k : Int) - 1) = k1 := by unfold wrap64; omega
            have hk1l : k1 < S1.length := by omega
            have HK1 := Aside0.mk hk1
            clear hk1
            obtain ⟨ad_, A3, c3, ea, x03, x13, xl3, xC3⟩ := at_T31 XS.out (k1 : Int) (by omega) (by omega)
            replace ea : ad = ad_ := Option.some.inj ea
            subst ea
            have hm3 := HSO.out _ (rdT_mem (S := S1) (i := (k1 : Int)) (by omega) (by omega))
            rw [show rd_T31 S1 (k1 : Int) = sAt S1 k1 from rfl] at x03 x13 xl3 xC3 hm3
            rw [Int.toNat_natCast] at x03 x13
            obtain ⟨ln3, hln3⟩ : ∃ a, a = (sAt S1 k1).f0 := ⟨_, rfl⟩
            obtain ⟨us3, hus3⟩ : ∃ a, a = (sAt S1 k1).f1 := ⟨_, rfl⟩
            rw [← hln3] at x03 hm3
            rw [← hus3] at x13 xl3 xC3 hm3
            have XC3 := Aside0.mk xC3
            have XL3 := Aside0.mk xl3
            have SO3 := Aside0.mk hm3
            replace x03 := pw_cell_below HX.out x03
            replace x13 := pw_cell_below HX.out x13
            have EL3 := Aside0.mk (And.intro hln3 hus3)
            clear xC3 xl3 hm3 hln3 hus3
            rw [show k1 = k - 1 by have := HK1.out; omega] at x03 x13
            have hfd := implFound SO3.out.1
            obtain ⟨zb, hzb⟩ : ∃ z, z = zeroL l0 ln3 us3 := ⟨_, rfl⟩
            have hfe : ff = if zb = true then k else first := by
              rw [FF.out, firstOf, show k - 1 = k1 by have := HK1.out; omega, ← EL3.out.1, ← EL3.out.2, ← hzb]
              by_cases hz : zb = true
              · rw [if_pos ⟨hk0, hz⟩, if_pos hz]
              · rw [if_neg (fun h_ => hz h_.2), if_neg hz]
            rw [← hzb] at hfd
            have HFD := Aside0.mk hfd
            have HFE0 := Aside0.mk hfe
            clear hfd hzb hfe hk0
            go_wp2_with fail
            refine (impl_hasHalted.calls _ _ l0 ln2 _ _ us2 false _ (Kd.C_below H1.out (below_step HB6.out (below_alloc HX.out _))) HC1.out (Kd.C_below XC2.out (below_alloc HX.out _)) XL2.out HHx.out).mono ?_
            rintro e w1 ⟨rfl, hb⟩
            replace x03 := pw_cell_below (below_step (below_alloc (Below.refl wL.heap.size wL) _) hb) x03
            replace x13 := pw_cell_below (below_step (below_alloc (Below.refl wL.heap.size wL) _) hb) x13
            replace HX := Aside0.mk (below_step (below_alloc HX.out _) hb)
            have BX9 := Aside0.mk (blk_below (blk_new wL (.cells #[.int .i64 ln2, .slice A2 us2.length c2] 31)) hb)
            clear hb x02 x12 HHx
            go_wp2_with fail
            refine (impl_foundZero.calls _ _ l0 ln3 _ _ us3 zb _ (Kd.C_below H1.out (below_step HB6.out HX.out)) HC1.out (Kd.C_below XC3.out HX.out) XL3.out HFD.out).mono ?_
            rintro e w2 ⟨rfl, hb⟩
            replace HX := Aside0.mk (below_step HX.out hb)
            replace BX9 := Aside0.mk (blk_below BX9.out hb)
            clear hb x03 x13 HFD FF hkw dk dk2 dk3
            cases zb with
            | true =>
              have HFE : Aside0 (ff = k) := ⟨by rw [HFE0.out, if_pos rfl]⟩
              obtain ⟨fi, hfi⟩ : ∃ t, t = findI (fun i => grownI S1 i k) (k - ff) ff := ⟨_, rfl⟩
              have hh := HH.out
              rw [← hfi] at hh
              replace HH := Aside0.mk hh
              have FI := Aside0.mk hfi
              clear hh hfi
              go_wp2
              go_loopw [14] (fun v14 wr => ∃ (i : Nat), v14 = .int .i64 i ∧ i ≤ k ∧ Aside0 (findI (fun i => grownI S1 i k) (k - i) i = fi) ∧ Aside0 (Below w6.heap.size w6 wr) ∧ Aside0 (wr.heap[wL.heap.size]? = some (.cells #[.int .i64 ln2, .slice A2 us2.length c2] 31 (0, 0)))) (fun i _ => k - (intOf i).toNat)
              case atStart => exact ⟨ff, by rw [HFE.out], hffk, ⟨FI.out.symm⟩, HX, BX9⟩
              case round =>
                clear HX FI BX9
                obtain ⟨i, rfl, hi, FI, HX, BX9⟩ := hrel
                by_cases hlt2 : i < k
                · obtain ⟨e, he⟩ : ∃ e, k - i = e + 1 := ⟨k - i - 1, by omega⟩
                  have hfi := FI.out
                  rw [he, findI] at hfi
                  have HE := Aside0.mk he
                  clear he FI
                  have hdi : decide ((i : Int) < (k : Int)) = true := decide_eq_true (by omega)
                  have hiS : i < S1.length := by omega
                  obtain ⟨ad_, A1, c1, ea, x01, x11, xl1, xC1⟩ := at_T31 XS.out (i : Int) (by omega) (by omega)
                  replace ea : ad = ad_ := Option.some.inj ea
                  subst ea
                  have hm1 := HSO.out _ (rdT_mem (S := S1) (i := (i : Int)) (by omega) (by omega))
                  rw [show rd_T31 S1 (i : Int) = sAt S1 i from rfl] at x01 x11 xl1 xC1 hm1
                  rw [Int.toNat_natCast] at x01 x11
                  obtain ⟨ln1, hln1⟩ : ∃ a, a = (sAt S1 i).f0 := ⟨_, rfl⟩
                  obtain ⟨us1, hus1⟩ : ∃ a, a = (sAt S1 i).f1 := ⟨_, rfl⟩
                  rw [← hln1] at x01 hm1
                  rw [← hus1] at x11 xl1 xC1 hm1
                  have XC1 := Aside0.mk xC1
                  have XL1 := Aside0.mk xl1
                  have SO1 := Aside0.mk hm1
                  replace x01 := pw_cell_below HX.out x01
                  replace x11 := pw_cell_below HX.out x11
                  have EL1 := Aside0.mk (And.intro hln1 hus1)
                  clear xC1 xl1 hm1 hln1 hus1
                  have hgp : grownI S1 i k = (decide (ln1 = ln2) && geL us2 us1) := by unfold grownI; rw [← EL1.out.1, ← EL1.out.2, ← EL2.out.1, ← EL2.out.2]
                  rw [hgp] at hfi
                  obtain ⟨KA, hKA⟩ := atLeast us2 us1 (by rw [SO1.out.2, SO2.out.2]) (by have := SO2.out.1.1.2.2.1; simp only [maxLen]; omega)
                  have HA := Aside0.mk (hKA KA (Nat.le_refl _))
                  obtain ⟨ge, hge⟩ : ∃ b, b = geL us2 us1 := ⟨_, rfl⟩
                  rw [← hge] at hfi HA
                  clear hgp hKA hge
                  have y0 := (blk_cell BX9.out 0).trans rfl
                  have y1 := (blk_cell BX9.out 1).trans rfl
                  by_cases hle : ln1 = ln2
                  · have de : (ln1 == ln2) = true := by simpa using hle
                    have de2 : decide (ln1 = ln2) = true := decide_eq_true hle
                    rw [de2, Bool.true_and] at hfi
                    have HFI := Aside0.mk hfi
                    clear hfi hle
                    go_wp2
                    refine start_ (n := 18) (S := fun w' => w'.cell? (ad.add (i * 2)) = some (.int .i64 ln1) ∧ w'.cell? ⟨(ad.add (i * 2)).block, (ad.add (i * 2)).off + 1, none⟩ = some (.slice A1 us1.length c1) ∧ w'.cell? ⟨wL.heap.size, 0, none⟩ = some (.int .i64 ln2) ∧ w'.cell? ⟨wL.heap.size, 1, none⟩ = some (.slice A2 us2.length c2)) (ds := []) #[false, false, false, false, false, false, false, false, false, false, false, false, false, false, false, false, false, false] (by kernel_rfl) rfl rfl ⟨x01, x11, y0, y1⟩ (fun hHeld => ?_)
                    refine Own.anew_ (wN := wr) (by repeat (first | with_reducible exact Below.refl _ _ | with_reducible apply below_alloc | with_reducible apply pw_below_drewN | with_reducible apply below_drew1)) hHeld (fun wz hzb hHeld => ?_)
                    replace x01 := pw_cell_below hzb x01
                    replace x11 := pw_cell_below hzb x11
                    replace y0 := pw_cell_below hzb y0
                    replace y1 := pw_cell_below hzb y1
                    replace HX := Aside0.mk (below_step HX.out hzb)
                    replace BX9 := Aside0.mk (blk_below BX9.out hzb)
                    clear hzb
                    refine pure_ (i := 0) (N := some 62) (v := ?_) (a' := ?_) #[true, false, false, false, false, false, false, false, false, false, false, false, false, false, false, false, false, false] rfl rfl (by kernel_rfl) (fun _ _ _ h => h) (Or.inl ⟨by rfl, ?_⟩) ?_ ?_
                    rotate_left
                    · intro w'
                      go_simp
                      with_reducible rfl
                    rotate_left
                    · simp only [Act.put, List.setIfInBounds_toArray, List.set_cons_zero, List.set_cons_succ, i64_w, i32_w]
                      rfl
                    refine pure_ (i := 1) (N := some 63) (v := ?_) (a' := ?_) #[true, true, false, false, false, false, false, false, false, false, false, false, false, false, false, false, false, false] rfl rfl (by kernel_rfl) (fun _ _ _ h => h) (Or.inl ⟨by rfl, ?_⟩) ?_ ?_
                    rotate_left
                    · intro w'
                      go_simp
                      with_reducible rfl
                    rotate_left
                    · simp only [Act.put, List.setIfInBounds_toArray, List.set_cons_zero, List.set_cons_succ, i64_w, i32_w]
                      rfl
                    refine pure_ (i := 2) (N := some 64) (v := ?_) (a' := ?_) #[true, true, true, false, false, false, false, false, false, false, false, false, false, false, false, false, false, false] rfl rfl (by kernel_rfl) (fun _ _ _ h => h) (Or.inl ⟨by rfl, ?_⟩) ?_ ?_
                    rotate_left
                    · intro w'
                      go_simp
                      with_reducible rfl
                    rotate_left
                    · simp only [Act.put, List.setIfInBounds_toArray, List.set_cons_zero, List.set_cons_succ, i64_w, i32_w]
                      rfl
                    refine pure_ (i := 3) (N := some 65) (v := ?_) (a' := ?_) #[true, true, true, true, false, false, false, false, false, false, false, false, false, false, false, false, false, false] rfl rfl (by kernel_rfl) (fun _ _ _ h => h) (Or.inl ⟨by rfl, ?_⟩) ?_ ?_
                    rotate_left
                    · intro w'
                      go_simp
                      with_reducible rfl
                    rotate_left
                    · simp only [Act.put, List.setIfInBounds_toArray, List.set_cons_zero, List.set_cons_succ, i64_w, i32_w]
                      rfl
                    refine pure_ (i := 5) (N := some 67) (v := ?_) (a' := ?_) #[true, true, true, true, false, true, false, false, false, false, false, false, false, false, false, false, false, false] rfl rfl (by kernel_rfl) (fun _ _ _ h => h) (Or.inl ⟨by rfl, ?_⟩) ?_ ?_
                    rotate_left
                    · intro w'
                      go_simp
                      with_reducible rfl
                    rotate_left
                    · simp only [Act.put, List.setIfInBounds_toArray, List.set_cons_zero, List.set_cons_succ, i64_w, i32_w]
                      rfl
                    refine take_ (i := 4) (N := some 66) (v := ?_) (a' := ?_) #[true, true, true, true, true, true, false, false, false, false, false, false, false, false, false, false, false, false] rfl rfl (by kernel_rfl) (fun _ _ _ h => h) (Or.inl ⟨by rfl, ?_⟩) hHeld ?_ ?_
                    rotate_left
                    · rintro w' ⟨s0, s1, s2, s3⟩
                      go_simp
                      with_reducible rfl
                    rotate_left
                    · simp only [Act.put, List.setIfInBounds_toArray, List.set_cons_zero, List.set_cons_succ, i64_w, i32_w]
                      rfl
                    refine take_ (i := 6) (N := some 68) (v := ?_) (a' := ?_) #[true, true, true, true, true, true, true, false, false, false, false, false, false, false, false, false, false, false] rfl rfl (by kernel_rfl) (fun _ _ _ h => h) (Or.inl ⟨by rfl, ?_⟩) hHeld ?_ ?_
                    rotate_left
                    · rintro w' ⟨s0, s1, s2, s3⟩
                      go_simp
                      with_reducible rfl
                    rotate_left
                    · simp only [Act.put, List.setIfInBounds_toArray, List.set_cons_zero, List.set_cons_succ, i64_w, i32_w]
                      rfl
                    refine pure_ (i := 7) (N := some 69) (v := ?_) (a' := ?_) #[true, true, true, true, true, true, true, true, false, false, false, false, false, false, false, false, false, false] rfl rfl (by kernel_rfl) (fun _ _ _ h => h) (Or.inl ⟨by rfl, ?_⟩) ?_ ?_
                    rotate_left
                    · intro w'
                      go_simp
                      with_reducible rfl
                    rotate_left
                    · simp only [Act.put, List.setIfInBounds_toArray, List.set_cons_zero, List.set_cons_succ, i64_w, i32_w]
                      rfl
                    refine pure_ (i := 8) (N := some 70) (v := ?_) (a' := ?_) #[true, true, true, true, true, true, true, true, true, false, false, false, false, false, false, false, false, false] rfl rfl (by kernel_rfl) (fun _ _ _ h => h) (Or.inl ⟨by rfl, ?_⟩) ?_ ?_
                    rotate_left
                    · intro w'
                      go_simp
                      with_reducible rfl
                    rotate_left
                    · simp only [Act.put, List.setIfInBounds_toArray, List.set_cons_zero, List.set_cons_succ, i64_w, i32_w]
                      rfl
                    refine pure_ (i := 9) (N := some 71) (v := ?_) (a' := ?_) #[true, true, true, true, true, true, true, true, true, true, false, false, false, false, false, false, false, false] rfl rfl (by kernel_rfl) (fun _ _ _ h => h) (Or.inl ⟨by rfl, ?_⟩) ?_ ?_
                    rotate_left
                    · intro w'
                      go_simp
                      with_reducible rfl
                    rotate_left
                    · simp only [Act.put, List.setIfInBounds_toArray, List.set_cons_zero, List.set_cons_succ, i64_w, i32_w]
                      rfl
                    refine pure_ (i := 11) (N := some 73) (v := ?_) (a' := ?_) #[true, true, true, true, true, true, true, true, true, true, false, true, false, false, false, false, false, false] rfl rfl (by kernel_rfl) (fun _ _ _ h => h) (Or.inl ⟨by rfl, ?_⟩) ?_ ?_
                    rotate_left
                    · intro w'
                      go_simp
                      with_reducible rfl
                    rotate_left
                    · simp only [Act.put, List.setIfInBounds_toArray, List.set_cons_zero, List.set_cons_succ, i64_w, i32_w]
                      rfl
                    refine pure_ (i := 12) (N := some 74) (v := ?_) (a' := ?_) #[true, true, true, true, true, true, true, true, true, true, false, true, true, false, false, false, false, false] rfl rfl (by kernel_rfl) (fun _ _ _ h => h) (Or.inl ⟨by rfl, ?_⟩) ?_ ?_
                    rotate_left
                    · intro w'
                      go_simp
                      with_reducible rfl
                    rotate_left
                    · simp only [Act.put, List.setIfInBounds_toArray, List.set_cons_zero, List.set_cons_succ, i64_w, i32_w]
                      rfl
                    refine take_ (i := 10) (N := some 72) (v := ?_) (a' := ?_) #[true, true, true, true, true, true, true, true, true, true, true, true, true, false, false, false, false, false] rfl rfl (by kernel_rfl) (fun _ _ _ h => h) (Or.inl ⟨by rfl, ?_⟩) hHeld ?_ ?_
                    rotate_left
                    · rintro w' ⟨s0, s1, s2, s3⟩
                      go_simp
                      with_reducible rfl
                    rotate_left
                    · simp only [Act.put, List.setIfInBounds_toArray, List.set_cons_zero, List.set_cons_succ, i64_w, i32_w]
                      rfl
                    refine pure_ (i := 13) (N := some 75) (v := ?_) (a' := ?_) #[true, true, true, true, true, true, true, true, true, true, true, true, true, true, false, false, false, false] rfl rfl (by kernel_rfl) (fun _ _ _ h => h) (Or.inl ⟨by rfl, ?_⟩) ?_ ?_
                    rotate_left
                    · intro w'
                      go_simp
                      with_reducible rfl
                    rotate_left
                    · simp only [Act.put, List.setIfInBounds_toArray, List.set_cons_zero, List.set_cons_succ, i64_w, i32_w]
                      rfl
                    refine pure_ (i := 14) (N := some 76) (v := ?_) (a' := ?_) #[true, true, true, true, true, true, true, true, true, true, true, true, true, true, true, false, false, false] rfl rfl (by kernel_rfl) (fun _ _ _ h => h) (Or.inl ⟨by rfl, ?_⟩) ?_ ?_
                    rotate_left
                    · intro w'
                      go_simp
                      with_reducible rfl
                    rotate_left
                    · simp only [Act.put, List.setIfInBounds_toArray, List.set_cons_zero, List.set_cons_succ, i64_w, i32_w]
                      rfl
                    refine take_ (i := 15) (N := some 77) (v := ?_) (a' := ?_) #[true, true, true, true, true, true, true, true, true, true, true, true, true, true, true, true, false, false] rfl rfl (by kernel_rfl) (fun _ _ _ h => h) (Or.inl ⟨by rfl, ?_⟩) hHeld ?_ ?_
                    rotate_left
                    · rintro w' ⟨s0, s1, s2, s3⟩
                      go_simp
                      with_reducible rfl
                    rotate_left
                    · simp only [Act.put, List.setIfInBounds_toArray, List.set_cons_zero, List.set_cons_succ, i64_w, i32_w]
                      rfl
                    refine one_ (i := 16) (N := some 78) #[true, true, true, true, true, true, true, true, true, true, true, true, true, true, true, true, true, false] rfl rfl (by kernel_rfl) (by decide) (fun K hK => ?_)
                    refine goes_ Try.func56 (by kernel_rfl) rfl #[.slice A2 us2.length c2, .slice A1 us1.length c1] (by rfl) rfl rfl (by (try simp only [List.map_toArray, List.map_cons, List.map_nil]); first | done | rfl) ?_
                    with_reducible refine (impl_atLeast.calls KA _ _ us2 _ _ us1 ge _ (Kd.C_below XC2.out HX.out) XL2.out (Kd.C_below XC1.out HX.out) XL1.out HA.out).mono ?_
                    rintro e_ wb ⟨rfl, ⟨nd, rfl⟩⟩
                    refine ⟨_, rfl, ?_⟩
                    have hb : Below wz.heap.size wz (wz.drewN nd) := pw_below_drewN (Below.refl _ _) nd
                    replace x01 := pw_cell_below hb x01
                    replace x11 := pw_cell_below hb x11
                    replace y0 := pw_cell_below hb y0
                    replace y1 := pw_cell_below hb y1
                    replace HX := Aside0.mk (below_step HX.out hb)
                    replace BX9 := Aside0.mk (blk_below BX9.out hb)
                    generalize wz.drewN nd = wb at x01 x11 y0 y1 HX BX9 ⊢
                    clear hb
                    refine hK.out _ _ ⟨x01, x11, y0, y1⟩ (fun hHeld => ?_)
                    clear hK K
                    refine norm_ (a' := ?_) ?_ ?_
                    rotate_left
                    · show Act.put _ (some 78) _ = _
                      simp only [Act.put, List.setIfInBounds_toArray, List.set_cons_zero, List.set_cons_succ, i64_w, i32_w]
                      rfl
                    refine pure_ (i := 17) (N := some 79) (v := ?_) (a' := ?_) #[true, true, true, true, true, true, true, true, true, true, true, true, true, true, true, true, true, true] rfl rfl (by kernel_rfl) (fun _ _ _ h => h) (Or.inl ⟨by rfl, ?_⟩) ?_ ?_
                    rotate_left
                    · intro w'
                      go_simp
                      with_reducible rfl
                    rotate_left
                    · simp only [Act.put, List.setIfInBounds_toArray, List.set_cons_zero, List.set_cons_succ, i64_w, i32_w]
                      rfl
                    refine done_ (by kernel_rfl) ?_
                    clear hHeld x01 x11 y0 y1
                    cases ge with
                    | true =>
                      have hfi := HFI.out
                      rw [if_pos rfl] at hfi
                      subst hfi
                      have hh := HH.out
                      simp only [Prod.mk.injEq] at hh
                      obtain ⟨rfl, rfl, rfl⟩ := hh
                      go_wp2
                      go_ret3
                      exact ⟨rfl, below_step HB6.out HX.out⟩
                    | false =>
                      have hf2 := HFI.out
                      rw [if_neg (by simp)] at hf2
                      have FI2 : Aside0 (findI (fun i => grownI S1 i k) (k - (i + 1)) (i + 1) = fi) := ⟨by rw [show k - (i + 1) = e by have := HE.out; omega]; exact hf2⟩
                      clear hf2 HFI
                      go_wp2
                      go_roundw
                      case rel => first | exact ⟨i + 1, by go_num, by omega, FI2, HX, BX9⟩ | (repeat (first | exact ⟨⟨i + 1, by go_num, by omega, FI2, HX, BX9⟩, rfl⟩ | refine ⟨_, ?_⟩))
                      case measure => simp [intOf]; omega
                  · have de : (ln1 == ln2) = false := by simpa using hle
                    have de2 : decide (ln1 = ln2) = false := decide_eq_false hle
                    rw [de2, Bool.false_and] at hfi
                    have HFI := Aside0.mk hfi
                    clear hfi hle
                    go_wp2
                    refine start_ (n := 18) (S := fun w' => w'.cell? (ad.add (i * 2)) = some (.int .i64 ln1) ∧ w'.cell? ⟨(ad.add (i * 2)).block, (ad.add (i * 2)).off + 1, none⟩ = some (.slice A1 us1.length c1) ∧ w'.cell? ⟨wL.heap.size, 0, none⟩ = some (.int .i64 ln2) ∧ w'.cell? ⟨wL.heap.size, 1, none⟩ = some (.slice A2 us2.length c2)) (ds := []) #[false, false, false, false, false, false, false, false, false, false, false, false, false, false, false, false, false, false] (by kernel_rfl) rfl rfl ⟨x01, x11, y0, y1⟩ (fun hHeld => ?_)
                    refine Own.anew_ (wN := wr) (by repeat (first | with_reducible exact Below.refl _ _ | with_reducible apply below_alloc | with_reducible apply pw_below_drewN | with_reducible apply below_drew1)) hHeld (fun wz hzb hHeld => ?_)
                    replace x01 := pw_cell_below hzb x01
                    replace x11 := pw_cell_below hzb x11
                    replace y0 := pw_cell_below hzb y0
                    replace y1 := pw_cell_below hzb y1
                    replace HX := Aside0.mk (below_step HX.out hzb)
                    replace BX9 := Aside0.mk (blk_below BX9.out hzb)
                    clear hzb
                    refine pure_ (i := 0) (N := some 62) (v := ?_) (a' := ?_) #[true, false, false, false, false, false, false, false, false, false, false, false, false, false, false, false, false, false] rfl rfl (by kernel_rfl) (fun _ _ _ h => h) (Or.inl ⟨by rfl, ?_⟩) ?_ ?_
                    rotate_left
                    · intro w'
                      go_simp
                      with_reducible rfl
                    rotate_left
                    · simp only [Act.put, List.setIfInBounds_toArray, List.set_cons_zero, List.set_cons_succ, i64_w, i32_w]
                      rfl
                    refine pure_ (i := 1) (N := some 63) (v := ?_) (a' := ?_) #[true, true, false, false, false, false, false, false, false, false, false, false, false, false, false, false, false, false] rfl rfl (by kernel_rfl) (fun _ _ _ h => h) (Or.inl ⟨by rfl, ?_⟩) ?_ ?_
                    rotate_left
                    · intro w'
                      go_simp
                      with_reducible rfl
                    rotate_left
                    · simp only [Act.put, List.setIfInBounds_toArray, List.set_cons_zero, List.set_cons_succ, i64_w, i32_w]
                      rfl
                    refine pure_ (i := 2) (N := some 64) (v := ?_) (a' := ?_) #[true, true, true, false, false, false, false, false, false, false, false, false, false, false, false, false, false, false] rfl rfl (by kernel_rfl) (fun _ _ _ h => h) (Or.inl ⟨by rfl, ?_⟩) ?_ ?_
                    rotate_left
                    · intro w'
                      go_simp
                      with_reducible rfl
                    rotate_left
                    · simp only [Act.put, List.setIfInBounds_toArray, List.set_cons_zero, List.set_cons_succ, i64_w, i32_w]
                      rfl
                    refine pure_ (i := 3) (N := some 65) (v := ?_) (a' := ?_) #[true, true, true, true, false, false, false, false, false, false, false, false, false, false, false, false, false, false] rfl rfl (by kernel_rfl) (fun _ _ _ h => h) (Or.inl ⟨by rfl, ?_⟩) ?_ ?_
                    rotate_left
                    · intro w'
                      go_simp
                      with_reducible rfl
                    rotate_left
                    · simp only [Act.put, List.setIfInBounds_toArray, List.set_cons_zero, List.set_cons_succ, i64_w, i32_w]
                      rfl
                    refine pure_ (i := 5) (N := some 67) (v := ?_) (a' := ?_) #[true, true, true, true, false, true, false, false, false, false, false, false, false, false, false, false, false, false] rfl rfl (by kernel_rfl) (fun _ _ _ h => h) (Or.inl ⟨by rfl, ?_⟩) ?_ ?_
                    rotate_left
                    · intro w'
                      go_simp
                      with_reducible rfl
                    rotate_left
                    · simp only [Act.put, List.setIfInBounds_toArray, List.set_cons_zero, List.set_cons_succ, i64_w, i32_w]
                      rfl
                    refine take_ (i := 4) (N := some 66) (v := ?_) (a' := ?_) #[true, true, true, true, true, true, false, false, false, false, false, false, false, false, false, false, false, false] rfl rfl (by kernel_rfl) (fun _ _ _ h => h) (Or.inl ⟨by rfl, ?_⟩) hHeld ?_ ?_
                    rotate_left
                    · rintro w' ⟨s0, s1, s2, s3⟩
                      go_simp
                      with_reducible rfl
                    rotate_left
                    · simp only [Act.put, List.setIfInBounds_toArray, List.set_cons_zero, List.set_cons_succ, i64_w, i32_w]
                      rfl
                    refine take_ (i := 6) (N := some 68) (v := ?_) (a' := ?_) #[true, true, true, true, true, true, true, false, false, false, false, false, false, false, false, false, false, false] rfl rfl (by kernel_rfl) (fun _ _ _ h => h) (Or.inl ⟨by rfl, ?_⟩) hHeld ?_ ?_
                    rotate_left
                    · rintro w' ⟨s0, s1, s2, s3⟩
                      go_simp
                      with_reducible rfl
                    rotate_left
                    · simp only [Act.put, List.setIfInBounds_toArray, List.set_cons_zero, List.set_cons_succ, i64_w, i32_w]
                      rfl
                    refine pure_ (i := 7) (N := some 69) (v := ?_) (a' := ?_) #[true, true, true, true, true, true, true, true, false, false, false, false, false, false, false, false, false, false] rfl rfl (by kernel_rfl) (fun _ _ _ h => h) (Or.inl ⟨by rfl, ?_⟩) ?_ ?_
                    rotate_left
                    · intro w'
                      go_simp
                      with_reducible rfl
                    rotate_left
                    · simp only [Act.put, List.setIfInBounds_toArray, List.set_cons_zero, List.set_cons_succ, i64_w, i32_w]
                      rfl
                    refine pure_ (i := 8) (N := some 70) (v := ?_) (a' := ?_) #[true, true, true, true, true, true, true, true, true, false, false, false, false, false, false, false, false, false] rfl rfl (by kernel_rfl) (fun _ _ _ h => h) (Or.inl ⟨by rfl, ?_⟩) ?_ ?_
                    rotate_left
                    · intro w'
                      go_simp
                      with_reducible rfl
                    rotate_left
                    · simp only [Act.put, List.setIfInBounds_toArray, List.set_cons_zero, List.set_cons_succ, i64_w, i32_w]
                      rfl
                    refine pure_ (i := 9) (N := some 71) (v := undef) (a' := ?_) #[true, true, true, true, true, true, true, true, true, true, false, false, false, false, false, false, false, false] rfl rfl (by kernel_rfl) (fun _ _ _ h => h) (Or.inr ⟨by rfl, rfl⟩) ?_ ?_
                    rotate_left
                    · simp only [Act.put, List.setIfInBounds_toArray, List.set_cons_zero, List.set_cons_succ, i64_w, i32_w]
                      rfl
                    refine pure_ (i := 10) (N := some 72) (v := undef) (a' := ?_) #[true, true, true, true, true, true, true, true, true, true, true, false, false, false, false, false, false, false] rfl rfl (by kernel_rfl) (fun _ _ _ h => h) (Or.inr ⟨by rfl, rfl⟩) ?_ ?_
                    rotate_left
                    · simp only [Act.put, List.setIfInBounds_toArray, List.set_cons_zero, List.set_cons_succ, i64_w, i32_w]
                      rfl
                    refine pure_ (i := 11) (N := some 73) (v := undef) (a' := ?_) #[true, true, true, true, true, true, true, true, true, true, true, true, false, false, false, false, false, false] rfl rfl (by kernel_rfl) (fun _ _ _ h => h) (Or.inr ⟨by rfl, rfl⟩) ?_ ?_
                    rotate_left
                    · simp only [Act.put, List.setIfInBounds_toArray, List.set_cons_zero, List.set_cons_succ, i64_w, i32_w]
                      rfl
                    refine pure_ (i := 12) (N := some 74) (v := undef) (a' := ?_) #[true, true, true, true, true, true, true, true, true, true, true, true, true, false, false, false, false, false] rfl rfl (by kernel_rfl) (fun _ _ _ h => h) (Or.inr ⟨by rfl, rfl⟩) ?_ ?_
                    rotate_left
                    · simp only [Act.put, List.setIfInBounds_toArray, List.set_cons_zero, List.set_cons_succ, i64_w, i32_w]
                      rfl
                    refine pure_ (i := 13) (N := some 75) (v := undef) (a' := ?_) #[true, true, true, true, true, true, true, true, true, true, true, true, true, true, false, false, false, false] rfl rfl (by kernel_rfl) (fun _ _ _ h => h) (Or.inr ⟨by rfl, rfl⟩) ?_ ?_
                    rotate_left
                    · simp only [Act.put, List.setIfInBounds_toArray, List.set_cons_zero, List.set_cons_succ, i64_w, i32_w]
                      rfl
                    refine pure_ (i := 14) (N := some 76) (v := undef) (a' := ?_) #[true, true, true, true, true, true, true, true, true, true, true, true, true, true, true, false, false, false] rfl rfl (by kernel_rfl) (fun _ _ _ h => h) (Or.inr ⟨by rfl, rfl⟩) ?_ ?_
                    rotate_left
                    · simp only [Act.put, List.setIfInBounds_toArray, List.set_cons_zero, List.set_cons_succ, i64_w, i32_w]
                      rfl
                    refine pure_ (i := 15) (N := some 77) (v := undef) (a' := ?_) #[true, true, true, true, true, true, true, true, true, true, true, true, true, true, true, true, false, false] rfl rfl (by kernel_rfl) (fun _ _ _ h => h) (Or.inr ⟨by rfl, rfl⟩) ?_ ?_
                    rotate_left
                    · simp only [Act.put, List.setIfInBounds_toArray, List.set_cons_zero, List.set_cons_succ, i64_w, i32_w]
                      rfl
                    refine pure_ (i := 16) (N := some 78) (v := undef) (a' := ?_) #[true, true, true, true, true, true, true, true, true, true, true, true, true, true, true, true, true, false] rfl rfl (by kernel_rfl) (fun _ _ _ h => h) (Or.inr ⟨by rfl, rfl⟩) ?_ ?_
                    rotate_left
                    · simp only [Act.put, List.setIfInBounds_toArray, List.set_cons_zero, List.set_cons_succ, i64_w, i32_w]
                      rfl
                    refine pure_ (i := 17) (N := some 79) (v := ?_) (a' := ?_) #[true, true, true, true, true, true, true, true, true, true, true, true, true, true, true, true, true, true] rfl rfl (by kernel_rfl) (fun _ _ _ h => h) (Or.inl ⟨by rfl, ?_⟩) ?_ ?_
                    rotate_left
                    · intro w'
                      go_simp
                      with_reducible rfl
                    rotate_left
                    · simp only [Act.put, List.setIfInBounds_toArray, List.set_cons_zero, List.set_cons_succ, i64_w, i32_w]
                      rfl
                    refine done_ (by kernel_rfl) ?_
                    clear hHeld x01 x11 y0 y1
                    have hf2 := HFI.out
                    rw [if_neg (by simp)] at hf2
                    have FI2 : Aside0 (findI (fun i => grownI S1 i k) (k - (i + 1)) (i + 1) = fi) := ⟨by rw [show k - (i + 1) = e by have := HE.out; omega]; exact hf2⟩
                    clear hf2 HFI
                    go_wp2
                    go_roundw
                    case rel => first | exact ⟨i + 1, by go_num, by omega, FI2, HX, BX9⟩ | (repeat (first | exact ⟨⟨i + 1, by go_num, by omega, FI2, HX, BX9⟩, rfl⟩ | refine ⟨_, ?_⟩))
                    case measure => simp [intOf]; omega
                · obtain rfl : i = k := by omega
                  have hfi := FI.out
                  rw [Nat.sub_self, findI] at hfi
                  subst hfi
                  have hh := HH.out
                  simp only at hh
                  have HH2 : Aside0 (growK l0 S1 (S1.length - (i + 1)) (i + 1) ff = (r1, r2, r3)) := ⟨by rw [show S1.length - (i + 1) = d by have := HD.out; omega]; exact hh⟩
                  clear hh
                  go_wp2
                  go_roundw
                  case rel => first | exact ⟨i + 1, ff, by go_num, by rw [HFE.out], by omega, by omega, HH2, HX⟩ | (repeat (first | exact ⟨⟨i + 1, ff, by go_num, by rw [HFE.out], by omega, by omega, HH2, HX⟩, rfl⟩ | refine ⟨_, ?_⟩))
                  case measure => simp [intOf]; omega
            | false =>
              have HFE : Aside0 (ff = first) := ⟨by rw [HFE0.out, if_neg (by simp)]⟩
              obtain ⟨fi, hfi⟩ : ∃ t, t = findI (fun i => grownI S1 i k) (k - ff) ff := ⟨_, rfl⟩
              have hh := HH.out
              rw [← hfi] at hh
              replace HH := Aside0.mk hh
              have FI := Aside0.mk hfi
              clear hh hfi
              go_wp2
              go_loopw [14] (fun v14 wr => ∃ (i : Nat), v14 = .int .i64 i ∧ i ≤ k ∧ Aside0 (findI (fun i => grownI S1 i k) (k - i) i = fi) ∧ Aside0 (Below w6.heap.size w6 wr) ∧ Aside0 (wr.heap[wL.heap.size]? = some (.cells #[.int .i64 ln2, .slice A2 us2.length c2] 31 (0, 0)))) (fun i _ => k - (intOf i).toNat)
              case atStart => exact ⟨ff, by rw [HFE.out], hffk, ⟨FI.out.symm⟩, HX, BX9⟩
              case round =>
                clear HX FI BX9
                obtain ⟨i, rfl, hi, FI, HX, BX9⟩ := hrel
                by_cases hlt2 : i < k
                · obtain ⟨e, he⟩ : ∃ e, k - i = e + 1 := ⟨k - i - 1, by omega⟩
                  have hfi := FI.out
                  rw [he, findI] at hfi
                  have HE := Aside0.mk he
                  clear he FI
                  have hdi : decide ((i : Int) < (k : Int)) = true := decide_eq_true (by omega)
                  have hiS : i < S1.length := by omega
                  obtain ⟨ad_, A1, c1, ea, x01, x11, xl1, xC1⟩ := at_T31 XS.out (i : Int) (by omega) (by omega)
                  replace ea : ad = ad_ := Option.some.inj ea
                  subst ea
                  have hm1 := HSO.out _ (rdT_mem (S := S1) (i := (i : Int)) (by omega) (by omega))
                  rw [show rd_T31 S1 (i : Int) = sAt S1 i from rfl] at x01 x11 xl1 xC1 hm1
                  rw [Int.toNat_natCast] at x01 x11
                  obtain ⟨ln1, hln1⟩ : ∃ a, a = (sAt S1 i).f0 := ⟨_, rfl⟩
                  obtain ⟨us1, hus1⟩ : ∃ a, a = (sAt S1 i).f1 := ⟨_, rfl⟩
                  rw [← hln1] at x01 hm1
                  rw [← hus1] at x11 xl1 xC1 hm1
                  have XC1 := Aside0.mk xC1
                  have XL1 := Aside0.mk xl1
                  have SO1 := Aside0.mk hm1
                  replace x01 := pw_cell_below HX.out x01
                  replace x11 := pw_cell_below HX.out x11
                  have EL1 := Aside0.mk (And.intro hln1 hus1)
                  clear xC1 xl1 hm1 hln1 hus1
                  have hgp : grownI S1 i k = (decide (ln1 = ln2) && geL us2 us1) := by unfold grownI; rw [← EL1.out.1, ← EL1.out.2, ← EL2.out.1, ← EL2.out.2]
                  rw [hgp] at hfi
                  obtain ⟨KA, hKA⟩ := atLeast us2 us1 (by rw [SO1.out.2, SO2.out.2]) (by have := SO2.out.1.1.2.2.1; simp only [maxLen]; omega)
                  have HA := Aside0.mk (hKA KA (Nat.le_refl _))
                  obtain ⟨ge, hge⟩ : ∃ b, b = geL us2 us1 := ⟨_, rfl⟩
                  rw [← hge] at hfi HA
                  clear hgp hKA hge
                  have y0 := (blk_cell BX9.out 0).trans rfl
                  have y1 := (blk_cell BX9.out 1).trans rfl
                  by_cases hle : ln1 = ln2
                  · have de : (ln1 == ln2) = true := by simpa using hle
                    have de2 : decide (ln1 = ln2) = true := decide_eq_true hle
                    rw [de2, Bool.true_and] at hfi
                    have HFI := Aside0.mk hfi
                    clear hfi hle
                    go_wp2
                    refine start_ (n := 18) (S := fun w' => w'.cell? (ad.add (i * 2)) = some (.int .i64 ln1) ∧ w'.cell? ⟨(ad.add (i * 2)).block, (ad.add (i * 2)).off + 1, none⟩ = some (.slice A1 us1.length c1) ∧ w'.cell? ⟨wL.heap.size, 0, none⟩ = some (.int .i64 ln2) ∧ w'.cell? ⟨wL.heap.size, 1, none⟩ = some (.slice A2 us2.length c2)) (ds := []) #[false, false, false, false, false, false, false, false, false, false, false, false, false, false, false, false, false, false] (by kernel_rfl) rfl rfl ⟨x01, x11, y0, y1⟩ (fun hHeld => ?_)
                    refine Own.anew_ (wN := wr) (by repeat (first | with_reducible exact Below.refl _ _ | with_reducible apply below_alloc | with_reducible apply pw_below_drewN | with_reducible apply below_drew1)) hHeld (fun wz hzb hHeld => ?_)
                    replace x01 := pw_cell_below hzb x01
                    replace x11 := pw_cell_below hzb x11
                    replace y0 := pw_cell_below hzb y0
                    replace y1 := pw_cell_below hzb y1
                    replace HX := Aside0.mk (below_step HX.out hzb)
                    replace BX9 := Aside0.mk (blk_below BX9.out hzb)
                    clear hzb
                    refine pure_ (i := 0) (N := some 62) (v := ?_) (a' := ?_) #[true, false, false, false, false, false, false, false, false, false, false, false, false, false, false, false, false, false] rfl rfl (by kernel_rfl) (fun _ _ _ h => h) (Or.inl ⟨by rfl, ?_⟩) ?_ ?_
                    rotate_left
                    · intro w'
                      go_simp
                      with_reducible rfl
                    rotate_left
                    · simp only [Act.put, List.setIfInBounds_toArray, List.set_cons_zero, List.set_cons_succ, i64_w, i32_w]
                      rfl
                    refine pure_ (i := 1) (N := some 63) (v := ?_) (a' := ?_) #[true, true, false, false, false, false, false, false, false, false, false, false, false, false, false, false, false, false] rfl rfl (by kernel_rfl) (fun _ _ _ h => h) (Or.inl ⟨by rfl, ?_⟩) ?_ ?_
                    rotate_left
                    · intro w'
                      go_simp
                      with_reducible rfl
                    rotate_left
                    · simp only [Act.put, List.setIfInBounds_toArray, List.set_cons_zero, List.set_cons_succ, i64_w, i32_w]
                      rfl
                    refine pure_ (i := 2) (N := some 64) (v := ?_) (a' := ?_) #[true, true, true, false, false, false, false, false, false, false, false, false, false, false, false, false, false, false] rfl rfl (by kernel_rfl) (fun _ _ _ h => h) (Or.inl ⟨by rfl, ?_⟩) ?_ ?_
                    rotate_left
                    · intro w'
                      go_simp
                      with_reducible rfl
                    rotate_left
                    · simp only [Act.put, List.setIfInBounds_toArray, List.set_cons_zero, List.set_cons_succ, i64_w, i32_w]
                      rfl
                    refine pure_ (i := 3) (N := some 65) (v := ?_) (a' := ?_) #[true, true, true, true, false, false, false, false, false, false, false, false, false, false, false, false, false, false] rfl rfl (by kernel_rfl) (fun _ _ _ h => h) (Or.inl ⟨by rfl, ?_⟩) ?_ ?_
                    rotate_left
                    · intro w'
                      go_simp
                      with_reducible rfl
                    rotate_left
                    · simp only [Act.put, List.setIfInBounds_toArray, List.set_cons_zero, List.set_cons_succ, i64_w, i32_w]
                      rfl
                    refine pure_ (i := 5) (N := some 67) (v := ?_) (a' := ?_) #[true, true, true, true, false, true, false, false, false, false, false, false, false, false, false, false, false, false] rfl rfl (by kernel_rfl) (fun _ _ _ h => h) (Or.inl ⟨by rfl, ?_⟩) ?_ ?_
                    rotate_left
                    · intro w'
                      go_simp
                      with_reducible rfl
                    rotate_left
                    · simp only [Act.put, List.setIfInBounds_toArray, List.set_cons_zero, List.set_cons_succ, i64_w, i32_w]
                      rfl
                    refine take_ (i := 4) (N := some 66) (v := ?_) (a' := ?_) #[true, true, true, true, true, true, false, false, false, false, false, false, false, false, false, false, false, false] rfl rfl (by kernel_rfl) (fun _ _ _ h => h) (Or.inl ⟨by rfl, ?_⟩) hHeld ?_ ?_
                    rotate_left
                    · rintro w' ⟨s0, s1, s2, s3⟩
                      go_simp
                      with_reducible rfl
                    rotate_left
                    · simp only [Act.put, List.setIfInBounds_toArray, List.set_cons_zero, List.set_cons_succ, i64_w, i32_w]
                      rfl
                    refine take_ (i := 6) (N := some 68) (v := ?_) (a' := ?_) #[true, true, true, true, true, true, true, false, false, false, false, false, false, false, false, false, false, false] rfl rfl (by kernel_rfl) (fun _ _ _ h => h) (Or.inl ⟨by rfl, ?_⟩) hHeld ?_ ?_
                    rotate_left
                    · rintro w' ⟨s0, s1, s2, s3⟩
                      go_simp
                      with_reducible rfl
                    rotate_left
                    · simp only [Act.put, List.setIfInBounds_toArray, List.set_cons_zero, List.set_cons_succ, i64_w, i32_w]
                      rfl
                    refine pure_ (i := 7) (N := some 69) (v := ?_) (a' := ?_) #[true, true, true, true, true, true, true, true, false, false, false, false, false, false, false, false, false, false] rfl rfl (by kernel_rfl) (fun _ _ _ h => h) (Or.inl ⟨by rfl, ?_⟩) ?_ ?_
                    rotate_left
                    · intro w'
                      go_simp
                      with_reducible rfl
                    rotate_left
                    · simp only [Act.put, List.setIfInBounds_toArray, List.set_cons_zero, List.set_cons_succ, i64_w, i32_w]
                      rfl
                    refine pure_ (i := 8) (N := some 70) (v := ?_) (a' := ?_) #[true, true, true, true, true, true, true, true, true, false, false, false, false, false, false, false, false, false] rfl rfl (by kernel_rfl) (fun _ _ _ h => h) (Or.inl ⟨by rfl, ?_⟩) ?_ ?_
                    rotate_left
                    · intro w'
                      go_simp
                      with_reducible rfl
                    rotate_left
                    · simp only [Act.put, List.setIfInBounds_toArray, List.set_cons_zero, List.set_cons_succ, i64_w, i32_w]
                      rfl
                    refine pure_ (i := 9) (N := some 71) (v := ?_) (a' := ?_) #[true, true, true, true, true, true, true, true, true, true, false, false, false, false, false, false, false, false] rfl rfl (by kernel_rfl) (fun _ _ _ h => h) (Or.inl ⟨by rfl, ?_⟩) ?_ ?_
                    rotate_left
                    · intro w'
                      go_simp
                      with_reducible rfl
                    rotate_left
                    · simp only [Act.put, List.setIfInBounds_toArray, List.set_cons_zero, List.set_cons_succ, i64_w, i32_w]
                      rfl
                    refine pure_ (i := 11) (N := some 73) (v := ?_) (a' := ?_) #[true, true, true, true, true, true, true, true, true, true, false, true, false, false, false, false, false, false] rfl rfl (by kernel_rfl) (fun _ _ _ h => h) (Or.inl ⟨by rfl, ?_⟩) ?_ ?_
                    rotate_left
                    · intro w'
                      go_simp
                      with_reducible rfl
                    rotate_left
                    · simp only [Act.put, List.setIfInBounds_toArray, List.set_cons_zero, List.set_cons_succ, i64_w, i32_w]
                      rfl
                    refine pure_ (i := 12) (N := some 74) (v := ?_) (a' := ?_) #[true, true, true, true, true, true, true, true, true, true, false, true, true, false, false, false, false, false] rfl rfl (by kernel_rfl) (fun _ _ _ h => h) (Or.inl ⟨by rfl, ?_⟩) ?_ ?_
                    rotate_left
                    · intro w'
                      go_simp
                      with_reducible rfl
                    rotate_left
                    · simp only [Act.put, List.setIfInBounds_toArray, List.set_cons_zero, List.set_cons_succ, i64_w, i32_w]
                      rfl
                    refine take_ (i := 10) (N := some 72) (v := ?_) (a' := ?_) #[true, true, true, true, true, true, true, true, true, true, true, true, true, false, false, false, false, false] rfl rfl (by kernel_rfl) (fun _ _ _ h => h) (Or.inl ⟨by rfl, ?_⟩) hHeld ?_ ?_
                    rotate_left
                    · rintro w' ⟨s0, s1, s2, s3⟩
                      go_simp
                      with_reducible rfl
                    rotate_left
                    · simp only [Act.put, List.setIfInBounds_toArray, List.set_cons_zero, List.set_cons_succ, i64_w, i32_w]
                      rfl
                    refine pure_ (i := 13) (N := some 75) (v := ?_) (a' := ?_) #[true, true, true, true, true, true, true, true, true, true, true, true, true, true, false, false, false, false] rfl rfl (by kernel_rfl) (fun _ _ _ h => h) (Or.inl ⟨by rfl, ?_⟩) ?_ ?_
                    rotate_left
                    · intro w'
                      go_simp
                      with_reducible rfl
                    rotate_left
                    · simp only [Act.put, List.setIfInBounds_toArray, List.set_cons_zero, List.set_cons_succ, i64_w, i32_w]
                      rfl
                    refine pure_ (i := 14) (N := some 76) (v := ?_) (a' := ?_) #[true, true, true, true, true, true, true, true, true, true, true, true, true, true, true, false, false, false] rfl rfl (by kernel_rfl) (fun _ _ _ h => h) (Or.inl ⟨by rfl, ?_⟩) ?_ ?_
                    rotate_left
                    · intro w'
                      go_simp
                      with_reducible rfl
                    rotate_left
                    · simp only [Act.put, List.setIfInBounds_toArray, List.set_cons_zero, List.set_cons_succ, i64_w, i32_w]
                      rfl
                    refine take_ (i := 15) (N := some 77) (v := ?_) (a' := ?_) #[true, true, true, true, true, true, true, true, true, true, true, true, true, true, true, true, false, false] rfl rfl (by kernel_rfl) (fun _ _ _ h => h) (Or.inl ⟨by rfl, ?_⟩) hHeld ?_ ?_
                    rotate_left
                    · rintro w' ⟨s0, s1, s2, s3⟩
                      go_simp
                      with_reducible rfl
                    rotate_left
                    · simp only [Act.put, List.setIfInBounds_toArray, List.set_cons_zero, List.set_cons_succ, i64_w, i32_w]
                      rfl
                    refine one_ (i := 16) (N := some 78) #[true, true, true, true, true, true, true, true, true, true, true, true, true, true, true, true, true, false] rfl rfl (by kernel_rfl) (by decide) (fun K hK => ?_)
                    refine goes_ Try.func56 (by kernel_rfl) rfl #[.slice A2 us2.length c2, .slice A1 us1.length c1] (by rfl) rfl rfl (by (try simp only [List.map_toArray, List.map_cons, List.map_nil]); first | done | rfl) ?_
                    with_reducible refine (impl_atLeast.calls KA _ _ us2 _ _ us1 ge _ (Kd.C_below XC2.out HX.out) XL2.out (Kd.C_below XC1.out HX.out) XL1.out HA.out).mono ?_
                    rintro e_ wb ⟨rfl, ⟨nd, rfl⟩⟩
                    refine ⟨_, rfl, ?_⟩
                    have hb : Below wz.heap.size wz (wz.drewN nd) := pw_below_drewN (Below.refl _ _) nd
                    replace x01 := pw_cell_below hb x01
                    replace x11 := pw_cell_below hb x11
                    replace y0 := pw_cell_below hb y0
                    replace y1 := pw_cell_below hb y1
                    replace HX := Aside0.mk (below_step HX.out hb)
                    replace BX9 := Aside0.mk (blk_below BX9.out hb)
                    generalize wz.drewN nd = wb at x01 x11 y0 y1 HX BX9 ⊢
                    clear hb
                    refine hK.out _ _ ⟨x01, x11, y0, y1⟩ (fun hHeld => ?_)
                    clear hK K
                    refine norm_ (a' := ?_) ?_ ?_
                    rotate_left
                    · show Act.put _ (some 78) _ = _
                      simp only [Act.put, List.setIfInBounds_toArray, List.set_cons_zero, List.set_cons_succ, i64_w, i32_w]
                      rfl
                    refine pure_ (i := 17) (N := some 79) (v := ?_) (a' := ?_) #[true, true, true, true, true, true, true, true, true, true, true, true, true, true, true, true, true, true] rfl rfl (by kernel_rfl) (fun _ _ _ h => h) (Or.inl ⟨by rfl, ?_⟩) ?_ ?_
                    rotate_left
                    · intro w'
                      go_simp
                      with_reducible rfl
                    rotate_left
                    · simp only [Act.put, List.setIfInBounds_toArray, List.set_cons_zero, List.set_cons_succ, i64_w, i32_w]
                      rfl
                    refine done_ (by kernel_rfl) ?_
                    clear hHeld x01 x11 y0 y1
                    cases ge with
                    | true =>
                      have hfi := HFI.out
                      rw [if_pos rfl] at hfi
                      subst hfi
                      have hh := HH.out
                      simp only [Prod.mk.injEq] at hh
                      obtain ⟨rfl, rfl, rfl⟩ := hh
                      go_wp2
                      go_ret3
                      exact ⟨rfl, below_step HB6.out HX.out⟩
                    | false =>
                      have hf2 := HFI.out
                      rw [if_neg (by simp)] at hf2
                      have FI2 : Aside0 (findI (fun i => grownI S1 i k) (k - (i + 1)) (i + 1) = fi) := ⟨by rw [show k - (i + 1) = e by have := HE.out; omega]; exact hf2⟩
                      clear hf2 HFI
                      go_wp2
                      go_roundw
                      case rel => first | exact ⟨i + 1, by go_num, by omega, FI2, HX, BX9⟩ | (repeat (first | exact ⟨⟨i + 1, by go_num, by omega, FI2, HX, BX9⟩, rfl⟩ | refine ⟨_, ?_⟩))
                      case measure => simp [intOf]; omega
                  · have de : (ln1 == ln2) = false := by simpa using hle
                    have de2 : decide (ln1 = ln2) = false := decide_eq_false hle
                    rw [de2, Bool.false_and] at hfi
                    have HFI := Aside0.mk hfi
                    clear hfi hle
                    go_wp2
                    refine start_ (n := 18) (S := fun w' => w'.cell? (ad.add (i * 2)) = some (.int .i64 ln1) ∧ w'.cell? ⟨(ad.add (i * 2)).block, (ad.add (i * 2)).off + 1, none⟩ = some (.slice A1 us1.length c1) ∧ w'.cell? ⟨wL.heap.size, 0, none⟩ = some (.int .i64 ln2) ∧ w'.cell? ⟨wL.heap.size, 1, none⟩ = some (.slice A2 us2.length c2)) (ds := []) #[false, false, false, false, false, false, false, false, false, false, false, false, false, false, false, false, false, false] (by kernel_rfl) rfl rfl ⟨x01, x11, y0, y1⟩ (fun hHeld => ?_)
                    refine Own.anew_ (wN := wr) (by repeat (first | with_reducible exact Below.refl _ _ | with_reducible apply below_alloc | with_reducible apply pw_below_drewN | with_reducible apply below_drew1)) hHeld (fun wz hzb hHeld => ?_)
                    replace x01 := pw_cell_below hzb x01
                    replace x11 := pw_cell_below hzb x11
                    replace y0 := pw_cell_below hzb y0
                    replace y1 := pw_cell_below hzb y1
                    replace HX := Aside0.mk (below_step HX.out hzb)
                    replace BX9 := Aside0.mk (blk_below BX9.out hzb)
                    clear hzb
                    refine pure_ (i := 0) (N := some 62) (v := ?_) (a' := ?_) #[true, false, false, false, false, false, false, false, false, false, false, false, false, false, false, false, false, false] rfl rfl (by kernel_rfl) (fun _ _ _ h => h) (Or.inl ⟨by rfl, ?_⟩) ?_ ?_
                    rotate_left
                    · intro w'
                      go_simp
                      with_reducible rfl
                    rotate_left
                    · simp only [Act.put, List.setIfInBounds_toArray, List.set_cons_zero, List.set_cons_succ, i64_w, i32_w]
                      rfl
                    refine pure_ (i := 1) (N := some 63) (v := ?_) (a' := ?_) #[true, true, false, false, false, false, false, false, false, false, false, false, false, false, false, false, false, false] rfl rfl (by kernel_rfl) (fun _ _ _ h => h) (Or.inl ⟨by rfl, ?_⟩) ?_ ?_
                    rotate_left
                    · intro w'
                      go_simp
                      with_reducible rfl
                    rotate_left
                    · simp only [Act.put, List.setIfInBounds_toArray, List.set_cons_zero, List.set_cons_succ, i64_w, i32_w]
                      rfl
                    refine pure_ (i := 2) (N := some 64) (v := ?_) (a' := ?_) #[true, true, true, false, false, false, false, false, false, false, false, false, false, false, false, false, false, false] rfl rfl (by kernel_rfl) (fun _ _ _ h => h) (Or.inl ⟨by rfl, ?_⟩) ?_ ?_
                    rotate_left
                    · intro w'
                      go_simp
                      with_reducible rfl
                    rotate_left
                    · simp only [Act.put, List.setIfInBounds_toArray, List.set_cons_zero, List.set_cons_succ, i64_w, i32_w]
                      rfl
                    refine pure_ (i := 3) (N := some 65) (v := ?_) (a' := ?_) #[true, true, true, true, false, false, false, false, false, false, false, false, false, false, false, false, false, false] rfl rfl (by kernel_rfl) (fun _ _ _ h => h) (Or.inl ⟨by rfl, ?_⟩) ?_ ?_
                    rotate_left
                    · intro w'
                      go_simp
                      with_reducible rfl
                    rotate_left
                    · simp only [Act.put, List.setIfInBounds_toArray, List.set_cons_zero, List.set_cons_succ, i64_w, i32_w]
                      rfl
                    refine pure_ (i := 5) (N := some 67) (v := ?_) (a' := ?_) #[true, true, true, true, false, true, false, false, false, false, false, false, false, false, false, false, false, false] rfl rfl (by kernel_rfl) (fun _ _ _ h => h) (Or.inl ⟨by rfl, ?_⟩) ?_ ?_
                    rotate_left
                    · intro w'
                      go_simp
                      with_reducible rfl
                    rotate_left
                    · simp only [Act.put, List.setIfInBounds_toArray, List.set_cons_zero, List.set_cons_succ, i64_w, i32_w]
                      rfl
                    refine take_ (i := 4) (N := some 66) (v := ?_) (a' := ?_) #[true, true, true, true, true, true, false, false, false, false, false, false, false, false, false, false, false, false] rfl rfl (by kernel_rfl) (fun _ _ _ h => h) (Or.inl ⟨by rfl, ?_⟩) hHeld ?_ ?_
                    rotate_left
                    · rintro w' ⟨s0, s1, s2, s3⟩
                      go_simp
                      with_reducible rfl
                    rotate_left
                    · simp only [Act.put, List.setIfInBounds_toArray, List.set_cons_zero, List.set_cons_succ, i64_w, i32_w]
                      rfl
                    refine take_ (i := 6) (N := some 68) (v := ?_) (a' := ?_) #[true, true, true, true, true, true, true, false, false, false, false, false, false, false, false, false, false, false] rfl rfl (by kernel_rfl) (fun _ _ _ h => h) (Or.inl ⟨by rfl, ?_⟩) hHeld ?_ ?_
                    rotate_left
                    · rintro w' ⟨s0, s1, s2, s3⟩
                      go_simp
                      with_reducible rfl
                    rotate_left
                    · simp only [Act.put, List.setIfInBounds_toArray, List.set_cons_zero, List.set_cons_succ, i64_w, i32_w]
                      rfl
                    refine pure_ (i := 7) (N := some 69) (v := ?_) (a' := ?_) #[true, true, true, true, true, true, true, true, false, false, false, false, false, false, false, false, false, false] rfl rfl (by kernel_rfl) (fun _ _ _ h => h) (Or.inl ⟨by rfl, ?_⟩) ?_ ?_
                    rotate_left
                    · intro w'
                      go_simp
                      with_reducible rfl
                    rotate_left
                    · simp only [Act.put, List.setIfInBounds_toArray, List.set_cons_zero, List.set_cons_succ, i64_w, i32_w]
                      rfl
                    refine pure_ (i := 8) (N := some 70) (v := ?_) (a' := ?_) #[true, true, true, true, true, true, true, true, true, false, false, false, false, false, false, false, false, false] rfl rfl (by kernel_rfl) (fun _ _ _ h => h) (Or.inl ⟨by rfl, ?_⟩) ?_ ?_
                    rotate_left
                    · intro w'
                      go_simp
                      with_reducible rfl
                    rotate_left
                    · simp only [Act.put, List.setIfInBounds_toArray, List.set_cons_zero, List.set_cons_succ, i64_w, i32_w]
                      rfl
                    refine pure_ (i := 9) (N := some 71) (v := undef) (a' := ?_) #[true, true, true, true, true, true, true, true, true, true, false, false, false, false, false, false, false, false] rfl rfl (by kernel_rfl) (fun _ _ _ h => h) (Or.inr ⟨by rfl, rfl⟩) ?_ ?_
                    rotate_left
                    · simp only [Act.put, List.setIfInBounds_toArray, List.set_cons_zero, List.set_cons_succ, i64_w, i32_w]
                      rfl
                    refine pure_ (i := 10) (N := some 72) (v := undef) (a' := ?_) #[true, true, true, true, true, true, true, true, true, true, true, false, false, false, false, false, false, false] rfl rfl (by kernel_rfl) (fun _ _ _ h => h) (Or.inr ⟨by rfl, rfl⟩) ?_ ?_
                    rotate_left
                    · simp only [Act.put, List.setIfInBounds_toArray, List.set_cons_zero, List.set_cons_succ, i64_w, i32_w]
                      rfl
                    refine pure_ (i := 11) (N := some 73) (v := undef) (a' := ?_) #[true, true, true, true, true, true, true, true, true, true, true, true, false, false, false, false, false, false] rfl rfl (by kernel_rfl) (fun _ _ _ h => h) (Or.inr ⟨by rfl, rfl⟩) ?_ ?_
                    rotate_left
                    · simp only [Act.put, List.setIfInBounds_toArray, List.set_cons_zero, List.set_cons_succ, i64_w, i32_w]
                      rfl
                    refine pure_ (i := 12) (N := some 74) (v := undef) (a' := ?_) #[true, true, true, true, true, true, true, true, true, true, true, true, true, false, false, false, false, false] rfl rfl (by kernel_rfl) (fun _ _ _ h => h) (Or.inr ⟨by rfl, rfl⟩) ?_ ?_
                    rotate_left
                    · simp only [Act.put, List.setIfInBounds_toArray, List.set_cons_zero, List.set_cons_succ, i64_w, i32_w]
                      rfl
                    refine pure_ (i := 13) (N := some 75) (v := undef) (a' := ?_) #[true, true, true, true, true, true, true, true, true, true, true, true, true, true, false, false, false, false] rfl rfl (by kernel_rfl) (fun _ _ _ h => h) (Or.inr ⟨by rfl, rfl⟩) ?_ ?_
                    rotate_left
                    · simp only [Act.put, List.setIfInBounds_toArray, List.set_cons_zero, List.set_cons_succ, i64_w, i32_w]
                      rfl
                    refine pure_ (i := 14) (N := some 76) (v := undef) (a' := ?_) #[true, true, true, true, true, true, true, true, true, true, true, true, true, true, true, false, false, false] rfl rfl (by kernel_rfl) (fun _ _ _ h => h) (Or.inr ⟨by rfl, rfl⟩) ?_ ?_
                    rotate_left
                    · simp only [Act.put, List.setIfInBounds_toArray, List.set_cons_zero, List.set_cons_succ, i64_w, i32_w]
                      rfl
                    refine pure_ (i := 15) (N := some 77) (v := undef) (a' := ?_) #[true, true, true, true, true, true, true, true, true, true, true, true, true, true, true, true, false, false] rfl rfl (by kernel_rfl) (fun _ _ _ h => h) (Or.inr ⟨by rfl, rfl⟩) ?_ ?_
                    rotate_left
                    · simp only [Act.put, List.setIfInBounds_toArray, List.set_cons_zero, List.set_cons_succ, i64_w, i32_w]
                      rfl
                    refine pure_ (i := 16) (N := some 78) (v := undef) (a' := ?_) #[true, true, true, true, true, true, true, true, true, true, true, true, true, true, true, true, true, false] rfl rfl (by kernel_rfl) (fun _ _ _ h => h) (Or.inr ⟨by rfl, rfl⟩) ?_ ?_
                    rotate_left
                    · simp only [Act.put, List.setIfInBounds_toArray, List.set_cons_zero, List.set_cons_succ, i64_w, i32_w]
                      rfl
                    refine pure_ (i := 17) (N := some 79) (v := ?_) (a' := ?_) #[true, true, true, true, true, true, true, true, true, true, true, true, true, true, true, true, true, true] rfl rfl (by kernel_rfl) (fun _ _ _ h => h) (Or.inl ⟨by rfl, ?_⟩) ?_ ?_
                    rotate_left
                    · intro w'
                      go_simp
                      with_reducible rfl
                    rotate_left
                    · simp only [Act.put, List.setIfInBounds_toArray, List.set_cons_zero, List.set_cons_succ, i64_w, i32_w]
                      rfl
                    refine done_ (by kernel_rfl) ?_
                    clear hHeld x01 x11 y0 y1
                    have hf2 := HFI.out
                    rw [if_neg (by simp)] at hf2
                    have FI2 : Aside0 (findI (fun i => grownI S1 i k) (k - (i + 1)) (i + 1) = fi) := ⟨by rw [show k - (i + 1) = e by have := HE.out; omega]; exact hf2⟩
                    clear hf2 HFI
                    go_wp2
                    go_roundw
                    case rel => first | exact ⟨i + 1, by go_num, by omega, FI2, HX, BX9⟩ | (repeat (first | exact ⟨⟨i + 1, by go_num, by omega, FI2, HX, BX9⟩, rfl⟩ | refine ⟨_, ?_⟩))
                    case measure => simp [intOf]; omega
                · obtain rfl : i = k := by omega
                  have hfi := FI.out
                  rw [Nat.sub_self, findI] at hfi
                  subst hfi
                  have hh := HH.out
                  simp only at hh
                  have HH2 : Aside0 (growK l0 S1 (S1.length - (i + 1)) (i + 1) ff = (r1, r2, r3)) := ⟨by rw [show S1.length - (i + 1) = d by have := HD.out; omega]; exact hh⟩
                  clear hh
                  go_wp2
                  go_roundw
                  case rel => first | exact ⟨i + 1, ff, by go_num, by rw [HFE.out], by omega, by omega, HH2, HX⟩ | (repeat (first | exact ⟨⟨i + 1, ff, by go_num, by rw [HFE.out], by omega, by omega, HH2, HX⟩, rfl⟩ | refine ⟨_, ?_⟩))
                  case measure => simp [intOf]; omega
      · obtain rfl : k = S1.length := by omega
        have hh := HH.out
        rw [Nat.sub_self, growK] at hh
        simp only [Prod.mk.injEq] at hh
        obtain ⟨rfl, rfl, rfl⟩ := hh
        go_wp2
        go_ret3
        exact ⟨rfl, below_step HB6.out HX.out⟩
  · rw [if_neg (fun h_ => hok h_.1)] at h
    have HK2 : Aside0 (impl_IsCounterState.f K l0 a1_0 l1_1 = some false) := ⟨by rw [HK.out]; exact congrArg some (decide_eq_false hok)⟩
    clear HK
    go_enter Try.func36, Try.ntmps36
    go_wp2_with (first
      | ((with_reducible refine gate_dst (N := 4) rfl ?_); refine box_event ?hg (N := 4) ?hd (cs := #[.int .i64 a1_0, .slice A1_1 l1_1.length c1_1]) (t := 31) ?hr ?_; (case hd => rfl); (case hg => rfl); (case hr => first | (go_simp; done) | (go_simp; rfl)); intro g3 hg w3 hbox hb; have B3 := Aside0.mk hbox; have HB := Aside0.mk hb; have L3 : Aside0 (w.heap.size ≤ g3) := ⟨(by rw [hg]; exact Nat.le_refl _)⟩; clear hg hbox hb; have z0 := (blk_cell B3.out 0).trans rfl; have z1 := (blk_cell B3.out 1).trans rfl)
      | fail)
    refine (impl_IsCounterState.calls K _ _ l0 a1_0 _ _ l1_1 false _ (Kd.C_below H1.out HB.out) HC1.out (Kd.C_below H2.out HB.out) HC2.out HK2.out).mono ?_
    rintro e w5 ⟨rfl, hb⟩
    replace HB := Aside0.mk (below_step HB.out hb)
    replace B3 := Aside0.mk (blk_below B3.out hb)
    clear z0 z1
    clear hb
    simp only [Prod.mk.injEq] at h
    obtain ⟨rfl, rfl, rfl⟩ := h
    go_wp2
    go_ret3
    exact ⟨rfl, HB.out⟩
end Go.Proofs.Ytbcphkblieeemaa.P
