/- The walk of impl.GreatestValues (printed by gen_run.py). -/
import Derived.Test.YtbcphkblieeemaaYFnExactGreatestValuesPx23
import Derived.Test.YtbcphkblieeemaaYFnExactGreatestValuesPx42
import Derived.Test.YtbcphkblieeemaaYFnExactGreatestValuesVRun
import Derived.Test.YtbcphkblieeemaaYFnExactGreatestValuesAGreat0
namespace Go.Proofs.Ytbcphkblieeemaa.P
open Go.RowKit Go.Proofs.YtbcphkblieeemaaW.PrintWords Go.Proofs.YtbcphkblieeemaaW.PrintLast Go.Proofs.YtbcphkblieeemaaW.PrintMore Go.Proofs.Ytbcphkblieeemaa.Own Go.Proofs.Ytbcphkblieeemaa.A
set_option linter.unusedVariables false
set_option linter.unusedSimpArgs false
attribute [local go_sem] max2_int max_two
/-! ### impl_GreatestValues: function 29 -/
def impl_GreatestValues.f (k : Nat) (l : List S55) (line : Int) (vs : List Int) (n : Int) : Option (List Int × Bool) := if l.length ≤ 1048576 ∧ vs.length ≤ 1048576 then some (if StOk l line vs ∧ 0 ≤ n ∧ n ≤ 2000 then (if (statesI l n.toNat line vs).2 = true then ((statesI l n.toNat line vs).1.foldl mostS (List.replicate vs.length 0), true) else ([], false)) else ([], false)) else none
set_option maxHeartbeats 4000000 in
set_option maxRecDepth 100000 in
theorem impl_GreatestValues.calls (k : Nat) (A0 : Option Addr) (c0 : Nat) (l0 : List S55) (a1_0 : Int) (A1_1 : Option Addr) (c1_1 : Nat) (l1_1 : List Int) (a2 : Int) (r1 : List Int) (r2 : Bool) (w : World) (hr0 : Kd.C k55 w A0 l0.length l0) (hc0 : l0.length ≤ c0) (hr1_1 : Kd.C (Kd.int .i64) w A1_1 l1_1.length l1_1) (hc1_1 : l1_1.length ≤ c1_1) (h : impl_GreatestValues.f k l0 a1_0 l1_1 a2 = some (r1, r2)) :
    Calls Try.prog 29 #[.slice A0 l0.length c0, .agg #[.int .i64 a1_0, .slice A1_1 l1_1.length c1_1], .int .i64 a2] w fun e w' => ∃ v0_ : Value, e = .returned (.tuple #[v0_, .bool r2]) ∧ Kd.R (Kd.int .i64) 3 w' w.heap.size (fun _ => True) v0_ r1 ∧ Below w.heap.size w w' := by
  unfold impl_GreatestValues.f at h
  by_cases hsm : l0.length ≤ 1048576 ∧ l1_1.length ≤ 1048576
  case neg => rw [if_neg hsm] at h; simp at h
  rw [if_pos hsm] at h
  replace h := Option.some.inj h
  have H1 := Aside0.mk hr0
  have H2 := Aside0.mk hr1_1
  have HC1 := Aside0.mk hc0
  have HC2 := Aside0.mk hc1_1
  have hu := Try.underlying31
  obtain ⟨K, hK⟩ := implIsCt l0 a1_0 l1_1 (by simp only [maxLen]; omega) (by simp only [maxLen]; omega)
  have HK : Aside0 (impl_IsCounterState.f K l0 a1_0 l1_1 = some (stOk l0 a1_0 l1_1)) := ⟨hK K (Nat.le_refl _)⟩
  clear hr0 hr1_1 hc0 hc1_1 hK
  by_cases hok : StOk l0 a1_0 l1_1
  · have HK2 : Aside0 (impl_IsCounterState.f K l0 a1_0 l1_1 = some true) := ⟨by rw [HK.out]; exact congrArg some (decide_eq_true hok)⟩
    clear HK
    by_cases hn0 : a2 < 0
    · rw [if_neg (fun h_ => by omega)] at h
      have d0 : decide (a2 < 0) = true := decide_eq_true hn0
      go_enter Try.func29, Try.ntmps29
      go_wp2_with (first
        | ((with_reducible refine gate_dst (N := 4) rfl ?_); refine box_event ?hg (N := 4) ?hd (cs := #[.int .i64 a1_0, .slice A1_1 l1_1.length c1_1]) (t := 31) ?hr ?_; (case hd => rfl); (case hg => rfl); (case hr => first | (go_simp; done) | (go_simp; rfl)); intro g3 hg w3 hbox hb; have B3 := Aside0.mk hbox; have HB := Aside0.mk hb; have L3 : Aside0 (w.heap.size ≤ g3) := ⟨(by rw [hg]; exact Nat.le_refl _)⟩; clear hg hbox hb; have z0 := (blk_cell B3.out 0).trans rfl; have z1 := (blk_cell B3.out 1).trans rfl)
        | fail)
      refine (impl_IsCounterState.calls K _ _ l0 a1_0 _ _ l1_1 true _ (Kd.C_below H1.out HB.out) HC1.out (Kd.C_below H2.out HB.out) HC2.out HK2.out).mono ?_
      rintro e w5 ⟨rfl, hb⟩
      replace HB := Aside0.mk (below_step HB.out hb)
      replace B3 := Aside0.mk (blk_below B3.out hb)
      clear z0 z1
      clear hb
      simp only [Prod.mk.injEq] at h
      obtain ⟨rfl, rfl⟩ := h
      go_wp2
      go_ret2
      exact ⟨_, rfl, Kd.R_nil _ _ _ _ _, HB.out⟩
    have d0 : decide (a2 < 0) = false := decide_eq_false hn0
    by_cases hn1 : a2 > 2000
    · rw [if_neg (fun h_ => by omega)] at h
      have d1 : decide (a2 > 2000) = true := decide_eq_true hn1
      have d1' : decide (2000 < a2) = true := decide_eq_true hn1
      go_enter Try.func29, Try.ntmps29
      go_wp2_with (first
        | ((with_reducible refine gate_dst (N := 4) rfl ?_); refine box_event ?hg (N := 4) ?hd (cs := #[.int .i64 a1_0, .slice A1_1 l1_1.length c1_1]) (t := 31) ?hr ?_; (case hd => rfl); (case hg => rfl); (case hr => first | (go_simp; done) | (go_simp; rfl)); intro g3 hg w3 hbox hb; have B3 := Aside0.mk hbox; have HB := Aside0.mk hb; have L3 : Aside0 (w.heap.size ≤ g3) := ⟨(by rw [hg]; exact Nat.le_refl _)⟩; clear hg hbox hb; have z0 := (blk_cell B3.out 0).trans rfl; have z1 := (blk_cell B3.out 1).trans rfl)
        | fail)
      refine (impl_IsCounterState.calls K _ _ l0 a1_0 _ _ l1_1 true _ (Kd.C_below H1.out HB.out) HC1.out (Kd.C_below H2.out HB.out) HC2.out HK2.out).mono ?_
      rintro e w5 ⟨rfl, hb⟩
      replace HB := Aside0.mk (below_step HB.out hb)
      replace B3 := Aside0.mk (blk_below B3.out hb)
      clear z0 z1
      clear hb
      simp only [Prod.mk.injEq] at h
      obtain ⟨rfl, rfl⟩ := h
      go_wp2
      go_ret2
      exact ⟨_, rfl, Kd.R_nil _ _ _ _ _, HB.out⟩
    have d1 : decide (a2 > 2000) = false := decide_eq_false hn1
    have d1' : decide (2000 < a2) = false := decide_eq_false hn1
    rw [if_pos ⟨hok, by omega, by omega⟩] at h
    obtain ⟨N, rfl⟩ := Int.eq_ofNat_of_zero_le (show 0 ≤ a2 by omega)
    rw [Int.toNat_natCast] at h
    have H := Aside0.mk h
    have SO0 := Aside0.mk hok
    clear h
    have hv1 : 0 < l1_1.length := by have := hok.1.2.1; omega
    have hv4 : l1_1.length ≤ 4 := by have := hok.1.2.2.1; omega
    obtain ⟨ad0, ea0, -⟩ := at_T55 H1.out (0 : Int) (by omega) (by have := hok.1.2.2.2.1; omega)
    subst ea0
    clear hok
    go_enter Try.func29, Try.ntmps29
    go_wp2_with (first
      | ((with_reducible refine gate_dst (N := 4) rfl ?_); refine box_event ?hg (N := 4) ?hd (cs := #[.int .i64 a1_0, .slice A1_1 l1_1.length c1_1]) (t := 31) ?hr ?_; (case hd => rfl); (case hg => rfl); (case hr => first | (go_simp; done) | (go_simp; rfl)); intro g3 hg w3 hbox hb; have B3 := Aside0.mk hbox; have HB := Aside0.mk hb; have L3 : Aside0 (w.heap.size ≤ g3) := ⟨(by rw [hg]; exact Nat.le_refl _)⟩; clear hg hbox hb; have z0 := (blk_cell B3.out 0).trans rfl; have z1 := (blk_cell B3.out 1).trans rfl)
      | fail)
    refine (impl_IsCounterState.calls K _ _ l0 a1_0 _ _ l1_1 true _ (Kd.C_below H1.out HB.out) HC1.out (Kd.C_below H2.out HB.out) HC2.out HK2.out).mono ?_
    rintro e w5 ⟨rfl, hb⟩
    replace HB := Aside0.mk (below_step HB.out hb)
    replace B3 := Aside0.mk (blk_below B3.out hb)
    clear z0 z1
    clear hb
    obtain ⟨⟨S1, bw⟩, hM⟩ : ∃ t, t = statesI l0 N a1_0 l1_1 := ⟨_, rfl⟩
    have HM : Aside0 (impl_statesOf.f 0 l0 a1_0 l1_1 (N : Int) = some (S1, bw)) := ⟨by rw [hM]; exact (if_pos ⟨hsm.1, hsm.2, SO0.out, by omega, by omega⟩).trans (by rw [Int.toNat_natCast])⟩
    have hSl := statesI_len (l := l0) N a1_0 l1_1
    have hSo := states_ok (l := l0) N a1_0 l1_1 SO0.out
    have hh := H.out
    rw [← hM] at hSl hSo hh
    simp only at hSl hSo hh
    have HSO := Aside0.mk hSo
    have HSL := Aside0.mk hSl
    have hS0 : 0 < S1.length := by omega
    clear hM hSl hSo H
    have z0 := (blk_cell B3.out 0).trans rfl
    have z1 := (blk_cell B3.out 1).trans rfl
    go_wp2_with fail
    refine (impl_statesOf.calls 0 _ _ l0 a1_0 _ _ l1_1 (N : Int) S1 bw _ (Kd.C_below H1.out HB.out) HC1.out (Kd.C_below H2.out HB.out) HC2.out HM.out).mono ?_
    rintro e w6 ⟨vS, rfl, hS, hb⟩
    obtain ⟨As, cs, es⟩ := Kd.S_slice hS
    subst es
    obtain ⟨_, hcs, hC6⟩ := Kd.S_reads' hS
    obtain ⟨ad, _, _, ea, -⟩ := at_T31 hC6 (0 : Int) (by omega) (by omega)
    subst ea
    have XS := Aside0.mk hC6
    have HB6 := Aside0.mk (below_step HB.out hb)
    have B36 := Aside0.mk (blk_below B3.out hb)
    clear hC6 hS hb z0 z1 B3 hcs
    cases bw with
    | false =>
      rw [if_neg (by simp)] at hh
      simp only [Prod.mk.injEq] at hh
      obtain ⟨rfl, rfl⟩ := hh
      go_wp2
      go_ret2
      exact ⟨_, rfl, Kd.R_nil _ _ _ _ _, HB6.out⟩
    | true =>
      rw [if_pos rfl] at hh
      simp only [Prod.mk.injEq] at hh
      obtain ⟨hh1, rfl⟩ := hh
      have HH := Aside0.mk hh1
      have z1 : w6.cell? ⟨g3, 1, none⟩ = some (.slice A1_1 l1_1.length c1_1) := (blk_cell B36.out 1).trans rfl
      have HX := Aside0.mk (Below.refl w6.heap.size w6)
      clear hh1 B36
      go_wp2_with (first
        | ((with_reducible refine gate_dst (N := 39) rfl ?_); refine Kd.R_make (Kd.int .i64) (w0 := w6) w6.heap.size 3 rfl (N := 39) rfl 23 _ _ rfl (l1_1.length : Int) ?hx ?hy Try.underlying23 (.int .i64 0) 8 info3 rfl (by decide) (by decide) 0 (ok := fun _ => True) (okp := fun _ => True) rfl (fun _ hk => hk) trivial (by omega) (by omega) HX.out HX.out.size ?_; (case hx => first | rfl | (simp [Act.eval]; done)); (case hy => first | rfl | (simp [Act.eval]; done)); intro vu w7 ho hb hg _; rw [Int.toNat_natCast] at ho; obtain ⟨gu, cu, eu, _, _, _⟩ := Kd.R_form ho (by simp; omega); replace eu : vu = .slice (some ⟨gu, 0, none⟩) (List.replicate l1_1.length (0 : Int)).length cu := eu; rw [List.length_replicate] at eu; subst eu; have US := Aside0.mk ho; replace HX := Aside0.mk hb; clear ho hb hg z1)
        | fail)
      go_loopw [42] (fun v42 wr => ∃ (i : Nat) (u : List Int), v42 = .int .i64 i ∧ i ≤ S1.length ∧ u.length = l1_1.length ∧ Aside0 ((S1.drop i).foldl mostS u = r1) ∧ Aside0 (Kd.R (Kd.int .i64) 3 wr w6.heap.size (fun _ => True) (.slice (some ⟨gu, 0, none⟩) l1_1.length cu) u) ∧ Aside0 (Below w6.heap.size w6 wr)) (fun i _ => S1.length - (intOf i).toNat)
      case atStart => exact ⟨0, _, rfl, Nat.zero_le _, by simp, HH, US, HX⟩
      case round =>
        clear US HX HH
        obtain ⟨i, u, rfl, hi, hul, HU, US, HX⟩ := hrel
        have hi2 : i ≤ 2001 := by have := HSL.out; omega
        by_cases hlt : i < S1.length
        · obtain ⟨ad', A1, c1, ea, x0, x1, xl, xC⟩ := at_T31 XS.out (i : Int) (by omega) (by omega)
          replace ea : ad = ad' := Option.some.inj ea
          subst ea
          obtain ⟨⟨ln, us⟩, hs⟩ : ∃ s, s = rd_T31 S1 (i : Int) := ⟨_, rfl⟩
          rw [← hs] at x0 x1 xl xC
          rw [Int.toNat_natCast] at x0 x1
          simp only at x0 x1 xC
          replace x0 := pw_cell_below HX.out x0
          replace x1 := pw_cell_below HX.out x1
          have hmem : (⟨ln, us⟩ : S31) ∈ S1 := by rw [hs]; exact rdT_mem (by omega) (by omega)
          have husl : us.length = l1_1.length := (HSO.out _ hmem).2
          have hdrop : S1.drop i = ⟨ln, us⟩ :: S1.drop (i + 1) := by
            rw [List.drop_eq_getElem_cons (by omega)]; congr 1; rw [hs]; simp [rd_T31, List.getD_eq_getElem?_getD, show i < S1.length by omega]
          have h1 := HU.out
          rw [hdrop, List.foldl_cons] at h1
          have HU2 := Aside0.mk h1
          have XC := Aside0.mk xC
          obtain ⟨wL, rfl⟩ : ∃ x, x = wr := ⟨wr, rfl⟩
          clear hs hmem hdrop h1 HU xl xC
          obtain ⟨adu, eu, _⟩ := Kd.at_int XC.out (0 : Int) (by omega) (by omega)
          subst eu
          have hdi : decide ((i : Int) < (S1.length : Int)) = true := decide_eq_true (by omega)
          go_wp2
          go_loopw [49] (fun v49 wr => ∃ (j : Nat) (p : List Int), v49 = .int .i64 j ∧ j ≤ us.length ∧ p.length = l1_1.length ∧ Aside0 (mostAt us j p = mostS u ⟨ln, us⟩) ∧ Aside0 (Kd.R (Kd.int .i64) 3 wr w6.heap.size (fun _ => True) (.slice (some ⟨gu, 0, none⟩) l1_1.length cu) p) ∧ Aside0 (Below w6.heap.size w6 wr)) (fun j _ => us.length - (intOf j).toNat)
          case atStart => exact ⟨0, u, rfl, Nat.zero_le _, hul, ⟨mostAt_zero _ _⟩, ⟨Kd.R_alloc US.out _⟩, ⟨below_alloc HX.out _⟩⟩
          case round =>
            clear US HX hul x0 x1
            obtain ⟨j, p, rfl, hj, hpl, HM, US, HX⟩ := hrel
            by_cases hlt2 : j < us.length
            · obtain ⟨ad2, e2, y2⟩ := Kd.at_int (Kd.C_below XC.out HX.out) (j : Int) (by omega) (by omega)
              replace e2 : adu = ad2 := Option.some.inj e2
              subst e2
              rw [Int.toNat_natCast] at y2
              obtain ⟨y0, fy0⟩ := Kd.R_celln 0 US.out (j : Int) (by omega) (by omega)
              rw [Int.toNat_natCast] at y0 fy0
              replace y0 : wr.cell? ⟨gu, j, none⟩ = some (.int .i64 (rd p (j : Int))) := y0
              have hst := mostAt_step (v := us) (p := p) (j := j) (by omega) hlt2
              obtain ⟨pa, hpa⟩ : ∃ t, t = rd p (j : Int) := ⟨_, rfl⟩
              obtain ⟨pb, hpb⟩ : ∃ t, t = rd us (j : Int) := ⟨_, rfl⟩
              rw [← hpa] at y0 hst
              rw [← hpb] at y2 hst
              have hmx : (if pa < pb then pb else pa) = mx pa pb := rfl
              have gl : gu < wr.heap.size := Kd.R_lt US.out gu rfl
              have HM2 := Aside0.mk (hst.trans HM.out)
              have hj4 : j ≤ 4 := by omega
              have hjl : j < l1_1.length := by omega
              clear hst hpa hpb HM
              go_wp2
              go_roundw
              case rel => first | exact ⟨j + 1, p.set j (mx pa pb), by go_num, by omega, by simp [hpl], HM2, ⟨Kd.R_putn US.out (j : Int) (mx pa pb)⟩, ⟨below_set HX.out (Kd.R_base US.out gu rfl)⟩⟩ | exact ⟨_, _, _, _, _, _, _, _, ⟨j + 1, p.set j (mx pa pb), by go_num, by omega, by simp [hpl], HM2, ⟨Kd.R_putn US.out (j : Int) (mx pa pb)⟩, ⟨below_set HX.out (Kd.R_base US.out gu rfl)⟩⟩, rfl⟩ | exact ⟨_, _, _, _, _, _, _, _, _, ⟨j + 1, p.set j (mx pa pb), by go_num, by omega, by simp [hpl], HM2, ⟨Kd.R_putn US.out (j : Int) (mx pa pb)⟩, ⟨below_set HX.out (Kd.R_base US.out gu rfl)⟩⟩, rfl⟩ | exact ⟨_, _, _, _, _, _, _, _, _, _, ⟨j + 1, p.set j (mx pa pb), by go_num, by omega, by simp [hpl], HM2, ⟨Kd.R_putn US.out (j : Int) (mx pa pb)⟩, ⟨below_set HX.out (Kd.R_base US.out gu rfl)⟩⟩, rfl⟩ | exact ⟨_, _, _, _, _, _, _, _, _, _, _, ⟨j + 1, p.set j (mx pa pb), by go_num, by omega, by simp [hpl], HM2, ⟨Kd.R_putn US.out (j : Int) (mx pa pb)⟩, ⟨below_set HX.out (Kd.R_base US.out gu rfl)⟩⟩, rfl⟩ | exact ⟨_, _, _, _, _, _, _, _, _, _, _, _, ⟨j + 1, p.set j (mx pa pb), by go_num, by omega, by simp [hpl], HM2, ⟨Kd.R_putn US.out (j : Int) (mx pa pb)⟩, ⟨below_set HX.out (Kd.R_base US.out gu rfl)⟩⟩, rfl⟩ | exact ⟨_, _, _, _, _, _, _, _, _, _, _, _, _, ⟨j + 1, p.set j (mx pa pb), by go_num, by omega, by simp [hpl], HM2, ⟨Kd.R_putn US.out (j : Int) (mx pa pb)⟩, ⟨below_set HX.out (Kd.R_base US.out gu rfl)⟩⟩, rfl⟩ | exact ⟨_, _, _, _, _, _, _, _, _, _, _, _, _, _, ⟨j + 1, p.set j (mx pa pb), by go_num, by omega, by simp [hpl], HM2, ⟨Kd.R_putn US.out (j : Int) (mx pa pb)⟩, ⟨below_set HX.out (Kd.R_base US.out gu rfl)⟩⟩, rfl⟩ | exact ⟨_, _, _, _, _, _, _, _, _, _, _, _, _, _, _, ⟨j + 1, p.set j (mx pa pb), by go_num, by omega, by simp [hpl], HM2, ⟨Kd.R_putn US.out (j : Int) (mx pa pb)⟩, ⟨below_set HX.out (Kd.R_base US.out gu rfl)⟩⟩, rfl⟩ | exact ⟨_, _, _, _, _, _, _, _, _, _, _, _, _, _, _, _, ⟨j + 1, p.set j (mx pa pb), by go_num, by omega, by simp [hpl], HM2, ⟨Kd.R_putn US.out (j : Int) (mx pa pb)⟩, ⟨below_set HX.out (Kd.R_base US.out gu rfl)⟩⟩, rfl⟩ | exact ⟨_, _, _, _, _, _, _, _, _, _, _, _, _, _, _, _, _, ⟨j + 1, p.set j (mx pa pb), by go_num, by omega, by simp [hpl], HM2, ⟨Kd.R_putn US.out (j : Int) (mx pa pb)⟩, ⟨below_set HX.out (Kd.R_base US.out gu rfl)⟩⟩, rfl⟩ | exact ⟨_, _, _, _, _, _, _, _, _, _, _, _, _, _, _, _, _, _, ⟨j + 1, p.set j (mx pa pb), by go_num, by omega, by simp [hpl], HM2, ⟨Kd.R_putn US.out (j : Int) (mx pa pb)⟩, ⟨below_set HX.out (Kd.R_base US.out gu rfl)⟩⟩, rfl⟩ | exact ⟨_, _, _, _, _, _, _, _, _, _, _, _, _, _, _, _, _, _, _, ⟨j + 1, p.set j (mx pa pb), by go_num, by omega, by simp [hpl], HM2, ⟨Kd.R_putn US.out (j : Int) (mx pa pb)⟩, ⟨below_set HX.out (Kd.R_base US.out gu rfl)⟩⟩, rfl⟩ | exact ⟨_, _, _, _, _, _, _, _, _, _, _, _, _, _, _, _, _, _, _, _, ⟨j + 1, p.set j (mx pa pb), by go_num, by omega, by simp [hpl], HM2, ⟨Kd.R_putn US.out (j : Int) (mx pa pb)⟩, ⟨below_set HX.out (Kd.R_base US.out gu rfl)⟩⟩, rfl⟩ | exact ⟨_, _, _, _, _, _, _, _, _, _, _, _, _, _, _, _, _, _, _, _, _, ⟨j + 1, p.set j (mx pa pb), by go_num, by omega, by simp [hpl], HM2, ⟨Kd.R_putn US.out (j : Int) (mx pa pb)⟩, ⟨below_set HX.out (Kd.R_base US.out gu rfl)⟩⟩, rfl⟩ | exact ⟨_, _, _, _, _, _, _, _, _, _, _, _, _, _, _, _, _, _, _, _, _, _, ⟨j + 1, p.set j (mx pa pb), by go_num, by omega, by simp [hpl], HM2, ⟨Kd.R_putn US.out (j : Int) (mx pa pb)⟩, ⟨below_set HX.out (Kd.R_base US.out gu rfl)⟩⟩, rfl⟩ | exact ⟨_, _, _, _, _, _, _, _, _, _, _, _, _, _, _, _, _, _, _, _, _, _, _, ⟨j + 1, p.set j (mx pa pb), by go_num, by omega, by simp [hpl], HM2, ⟨Kd.R_putn US.out (j : Int) (mx pa pb)⟩, ⟨below_set HX.out (Kd.R_base US.out gu rfl)⟩⟩, rfl⟩
              case measure => simp [intOf]; omega
            · obtain rfl : j = us.length := by omega
              have hm := HM.out
              rw [mostAt_end us p (by omega)] at hm
              subst hm
              go_wp2
              go_roundw
              case rel => exact ⟨i + 1, _, by go_num, by omega, hpl, HU2, US, HX⟩
              case measure => simp [intOf]; omega
        · obtain rfl : i = S1.length := by omega
          have h1 := HU.out
          rw [List.drop_eq_nil_iff.2 (by omega), List.foldl_nil] at h1
          subst h1
          go_wp2
          go_ret2
          exact ⟨_, rfl, Kd.R_lower US.out HB6.out.size, below_step HB6.out HX.out⟩
  · rw [if_neg (fun h_ => hok h_.1)] at h
    have HK2 : Aside0 (impl_IsCounterState.f K l0 a1_0 l1_1 = some false) := ⟨by rw [HK.out]; exact congrArg some (decide_eq_false hok)⟩
    clear HK
    go_enter Try.func29, Try.ntmps29
    go_wp2_with (first
      | ((with_reducible refine gate_dst (N := 4) rfl ?_); refine box_event ?hg (N := 4) ?hd (cs := #[.int .i64 a1_0, .slice A1_1 l1_1.length c1_1]) (t := 31) ?hr ?_; (case hd => rfl); (case hg => rfl); (case hr => first | (go_simp; done) | (go_simp; rfl)); intro g3 hg w3 hbox hb; have B3 := Aside0.mk hbox; have HB := Aside0.mk hb; have L3 : Aside0 (w.heap.size ≤ g3) := ⟨(by rw [hg]; exact Nat.le_refl _)⟩; clear hg hbox hb; have z0 := (blk_cell B3.out 0).trans rfl; have z1 := (blk_cell B3.out 1).trans rfl)
      | fail)
    refine (impl_IsCounterState.calls K _ _ l0 a1_0 _ _ l1_1 false _ (Kd.C_below H1.out HB.out) HC1.out (Kd.C_below H2.out HB.out) HC2.out HK2.out).mono ?_
    rintro e w5 ⟨rfl, hb⟩
    replace HB := Aside0.mk (below_step HB.out hb)
    replace B3 := Aside0.mk (blk_below B3.out hb)
    clear z0 z1
    clear hb
    simp only [Prod.mk.injEq] at h
    obtain ⟨rfl, rfl⟩ := h
    go_wp2
    go_ret2
    exact ⟨_, rfl, Kd.R_nil _ _ _ _ _, HB.out⟩
end Go.Proofs.Ytbcphkblieeemaa.P
