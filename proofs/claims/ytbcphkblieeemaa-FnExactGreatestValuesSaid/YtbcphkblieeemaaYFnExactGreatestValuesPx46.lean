/- The walk of spec.GreatestValues (printed by gen_run.py). -/
import Derived.Test.YtbcphkblieeemaaYFnExactGreatestValuesPx15
import Derived.Test.YtbcphkblieeemaaYFnExactGreatestValuesPx33
import Derived.Test.YtbcphkblieeemaaYFnExactGreatestValuesPx34
import Derived.Test.YtbcphkblieeemaaYFnExactGreatestValuesPx17
import Derived.Test.YtbcphkblieeemaaYFnExactGreatestValuesPx45
import Derived.Test.YtbcphkblieeemaaYFnExactGreatestValuesVRun
import Derived.Test.YtbcphkblieeemaaYFnExactGreatestValuesAGreat0
namespace Go.Proofs.Ytbcphkblieeemaa.P
open Go.RowKit Go.Proofs.YtbcphkblieeemaaW.PrintWords Go.Proofs.YtbcphkblieeemaaW.PrintLast Go.Proofs.YtbcphkblieeemaaW.PrintMore Go.Proofs.Ytbcphkblieeemaa.Own Go.Proofs.Ytbcphkblieeemaa.A
set_option linter.unusedVariables false
set_option linter.unusedSimpArgs false
/-! ### spec_GreatestValues: function 28 -/
def spec_GreatestValues.f (k : Nat) (l : List S55) (line : Int) (vs : List Int) (n : Int) : Option (List Int × Bool) := if l.length ≤ 1048576 ∧ vs.length ≤ 1048576 then some (resGreat l line vs n) else none
set_option maxHeartbeats 4000000 in
set_option maxRecDepth 100000 in
theorem spec_GreatestValues.calls (k : Nat) (A0 : Option Addr) (c0 : Nat) (l0 : List S55) (a1_0 : Int) (A1_1 : Option Addr) (c1_1 : Nat) (l1_1 : List Int) (a2 : Int) (r1 : List Int) (r2 : Bool) (w : World) (hr0 : Kd.C k55 w A0 l0.length l0) (hc0 : l0.length ≤ c0) (hr1_1 : Kd.C (Kd.int .i64) w A1_1 l1_1.length l1_1) (hc1_1 : l1_1.length ≤ c1_1) (h : spec_GreatestValues.f k l0 a1_0 l1_1 a2 = some (r1, r2)) :
    Calls Try.prog 28 #[.slice A0 l0.length c0, .agg #[.int .i64 a1_0, .slice A1_1 l1_1.length c1_1], .int .i64 a2] w fun e w' => ∃ v0_ : Value, e = .returned (.tuple #[v0_, .bool r2]) ∧ Kd.R (Kd.int .i64) 3 w' w.heap.size (fun _ => True) v0_ r1 ∧ Below w.heap.size w w' := by
  unfold spec_GreatestValues.f at h
  by_cases hsm : l0.length ≤ 1048576 ∧ l1_1.length ≤ 1048576
  case neg => rw [if_neg hsm] at h; simp at h
  rw [if_pos hsm] at h
  replace h := Option.some.inj h
  have H1 := Aside0.mk hr0
  have H2 := Aside0.mk hr1_1
  have HC1 := Aside0.mk hc0
  have HC2 := Aside0.mk hc1_1
  unfold resGreat at h
  have hu := Try.underlying31
  have hu70 := Try.underlying70
  obtain ⟨K, hK⟩ := ctState l0 a1_0 l1_1 (by simp only [maxLen]; omega) (by simp only [maxLen]; omega)
  have HK : Aside0 (spec_ctState.f K l0 a1_0 l1_1 = some (stOk l0 a1_0 l1_1)) := ⟨hK K (Nat.le_refl _)⟩
  clear hr0 hr1_1 hc0 hc1_1 hK
  have HN : Aside0 (spec_ctSteps.f a2 = some (decide (0 ≤ a2 ∧ a2 ≤ 2000))) := ⟨by unfold spec_ctSteps.f; rw [in_f]; rfl⟩
  by_cases hok : StOk l0 a1_0 l1_1
  · have HK2 : Aside0 (spec_ctState.f K l0 a1_0 l1_1 = some true) := ⟨by rw [HK.out]; exact congrArg some (decide_eq_true hok)⟩
    clear HK
    by_cases hn : 0 ≤ a2 ∧ a2 ≤ 2000
    · have HN2 : Aside0 (spec_ctSteps.f a2 = some true) := ⟨by rw [HN.out]; exact congrArg some (decide_eq_true hn)⟩
      rw [if_pos ⟨hok, hn.1, hn.2⟩] at h
      clear HN
      have HM : Aside0 (spec_ctMake.f 0 l0 a1_0 l1_1 a2 = some (makeL l0 a2.toNat 0 a1_0 l1_1 (-1))) := ⟨if_pos ⟨hsm.1, hsm.2, hok, hn.1, hn.2⟩⟩
      have hne := makeL_ne (l := l0) a2.toNat 0 a1_0 l1_1 (-1)
      have hle := makeL_len (l := l0) a2.toNat 0 a1_0 l1_1 (-1)
      have hso := makeL_ok (l := l0) a2.toNat 0 a1_0 l1_1 (-1) hok
      obtain ⟨⟨S1, Z1, bf⟩, hM⟩ : ∃ t, t = makeL l0 a2.toNat 0 a1_0 l1_1 (-1) := ⟨_, rfl⟩
      rw [← hM] at HM h hne hle hso
      simp only at hne hle hso
      obtain ⟨m, hSm⟩ : ∃ m, S1.length = m + 1 := ⟨S1.length - 1, by have := List.length_pos_iff.2 hne; omega⟩
      have hm20 : m ≤ 2000 := by omega
      have hwm : wrap64 (m : Int) = m := by unfold wrap64; omega
      have hm1 : (m : Int) < (m : Int) + 1 := by omega
      have HSO := Aside0.mk hso
      have HZL := Aside0.mk hle.2
      have HNE := Aside0.mk hne
      have H := Aside0.mk h
      clear hM hso hne hle h hok hn
      go_enter Try.func28, Try.ntmps28
      go_wp2_with (first
        | ((with_reducible refine gate_dst (N := 4) rfl ?_); refine box_event ?hg (N := 4) ?hd (cs := #[.int .i64 a1_0, .slice A1_1 l1_1.length c1_1]) (t := 31) ?hr ?_; (case hd => rfl); (case hg => rfl); (case hr => first | (go_simp; done) | (go_simp; rfl)); intro g3 hg w3 hbox hb; have B3 := Aside0.mk hbox; have HB := Aside0.mk hb; have L3 : Aside0 (w.heap.size ≤ g3) := ⟨(by rw [hg]; exact Nat.le_refl _)⟩; clear hg hbox hb; have z0 := (blk_cell B3.out 0).trans rfl; have z1 := (blk_cell B3.out 1).trans rfl)
        | fail)
      refine (spec_ctState.calls K _ _ l0 a1_0 _ _ l1_1 true _ (Kd.C_below H1.out HB.out) HC1.out (Kd.C_below H2.out HB.out) HC2.out HK2.out).mono ?_
      rintro e w5 ⟨rfl, hb⟩
      replace HB := Aside0.mk (below_step HB.out hb)
      replace B3 := Aside0.mk (blk_below B3.out hb)
      clear z0 z1
      clear hb
      go_wp2_with fail
      refine (spec_ctSteps.calls a2 true _ HN2.out).mono ?_
      rintro e w5 ⟨rfl, ⟨nd, rfl⟩⟩
      replace HB := Aside0.mk (pw_below_drewN HB.out nd)
      replace B3 := Aside0.mk (blk_drewN B3.out nd)
      generalize World.drewN _ nd = w5 at HB B3 ⊢
      clear HN2
      have z0 := (blk_cell B3.out 0).trans rfl
      have z1 := (blk_cell B3.out 1).trans rfl
      go_wp2_with fail
      refine (spec_ctMake.calls 0 _ _ l0 a1_0 _ _ l1_1 a2 S1 Z1 bf _ (Kd.C_below H1.out HB.out) HC1.out (Kd.C_below H2.out HB.out) HC2.out HM.out).mono ?_
      rintro e w6 ⟨g, rfl, gs, cs, gz, cz, hR⟩
      have RN := Aside0.mk hR
      have HB6 := Aside0.mk (below_step HB.out hR.be)
      have B36 := Aside0.mk (blk_below B3.out hR.be)
      clear hR B3 z0 z1
      have z1 : w6.cell? ⟨g3, 1, none⟩ = some (.slice A1_1 l1_1.length c1_1) := (blk_cell B36.out 1).trans rfl
      have s2 := (blk_cell RN.out.box 2).trans rfl
      cases bf with
      | true =>
        have hh := H.out
        rw [if_pos rfl] at hh
        simp only [Prod.mk.injEq] at hh
        obtain ⟨rfl, rfl⟩ := hh
        go_wp2
        go_ret2
        exact ⟨_, rfl, Kd.R_nil _ _ _ _ _, HB6.out⟩
      | false =>
        have hh := H.out
        clear H
        rw [if_neg (by simp)] at hh
        simp only [Prod.mk.injEq] at hh
        obtain ⟨hh1, rfl⟩ := hh
        have HH := Aside0.mk hh1
        have hvl : l1_1.length ≤ 4 := by have := (HSO.out _ (lastS_mem HNE.out)); have h2 := this.1.1.2.2.1; omega
        have OWN := Aside0.mk (l1Own l1_1 (by omega))
        obtain ⟨_, _, hC6⟩ := Kd.R_reads' RN.out.st
        obtain ⟨ad, had⟩ : ∃ ad, ad = (⟨gs, 0, none⟩ : Addr) := ⟨_, rfl⟩
        have s0 : w6.cell? ⟨g, 0, none⟩ = some (.slice (some ad) S1.length cs) := by rw [had]; exact (blk_cell RN.out.box 0).trans rfl
        rw [← had] at hC6
        have XS := Aside0.mk hC6
        clear hC6 had
        clear hh1 RN
        go_wp2_with fail
        refine (spec_l1Own.calls _ _ l1_1 l1_1 _ (Kd.C_below H2.out HB6.out) HC2.out OWN.out).mono ?_
        rintro e w7 ⟨vu, rfl, ho, hb⟩
        have hpos : 0 < l1_1.length := by have := (HSO.out _ (lastS_mem HNE.out)); have h2 := this.1.1.2.1; omega
        obtain ⟨gu, cu, eu, _, _, _⟩ := Kd.R_form ho hpos
        subst eu
        have US := Aside0.mk ho
        have HX := Aside0.mk hb
        replace s0 := pw_cell_below hb s0
        clear ho hb z1 OWN
        go_wp2
        go_loopw [39] (fun v39 wr => ∃ (i : Nat) (u : List Int), v39 = .int .i64 i ∧ i ≤ m + 1 ∧ u.length = l1_1.length ∧ Aside0 ((S1.drop i).foldl mostS u = r1) ∧ Aside0 (Kd.R (Kd.int .i64) 3 wr w6.heap.size (fun _ => True) (.slice (some ⟨gu, 0, none⟩) l1_1.length cu) u) ∧ Aside0 (Below w6.heap.size w6 wr)) (fun i _ => m + 1 - (intOf i).toNat)
        case atStart => exact ⟨0, _, rfl, Nat.zero_le _, rfl, HH, US, HX⟩
        case round =>
          clear US HX s0 HH s2
          obtain ⟨i, u, rfl, hi, hul, HU, US, HX⟩ := hrel
          by_cases hlt : i < m + 1
          · obtain ⟨ad', A1, c1, ea, x0, x1, xl, xC⟩ := at_T31 XS.out (i : Int) (by omega) (by omega)
            replace ea : ad = ad' := Option.some.inj ea
            subst ea
            obtain ⟨⟨ln, us⟩, hs⟩ : ∃ s, s = rd_T31 S1 (i : Int) := ⟨_, rfl⟩
            rw [← hs] at x0 x1 xl xC
            rw [Int.toNat_natCast] at x0 x1
            simp only at x0 x1 xC
            replace x0 := pw_cell_below HX.out x0
            replace x1 := pw_cell_below HX.out x1
            have hmem : (⟨ln, us⟩ : S31) ∈ S1 := by rw [hs]; exact rdT_mem (by omega) (by omega)
            have husl : us.length = l1_1.length := (HSO.out _ hmem).2
            have hdrop : S1.drop i = ⟨ln, us⟩ :: S1.drop (i + 1) := by
              rw [List.drop_eq_getElem_cons (by omega)]; congr 1; rw [hs]; simp [rd_T31, List.getD_eq_getElem?_getD, show i < S1.length by omega]
            have h1 := HU.out
            rw [hdrop, List.foldl_cons] at h1
            have HU2 := Aside0.mk h1
            have XC := Aside0.mk xC
            obtain ⟨wL, rfl⟩ : ∃ x, x = wr := ⟨wr, rfl⟩
            clear hs hmem hdrop h1 HU xl xC
            obtain ⟨adu, eu, _⟩ := Kd.at_int XC.out (0 : Int) (by omega) (by omega)
            subst eu
            have hdi : decide ((i : Int) < (m : Int) + 1) = true := decide_eq_true (by omega)
            go_wp2
            go_loopw [46] (fun v46 wr => ∃ (j : Nat) (p : List Int), v46 = .int .i64 j ∧ j ≤ us.length ∧ p.length = l1_1.length ∧ Aside0 (mostAt us j p = mostS u ⟨ln, us⟩) ∧ Aside0 (Kd.R (Kd.int .i64) 3 wr w6.heap.size (fun _ => True) (.slice (some ⟨gu, 0, none⟩) l1_1.length cu) p) ∧ Aside0 (Below w6.heap.size w6 wr)) (fun j _ => us.length - (intOf j).toNat)
            case atStart => exact ⟨0, u, rfl, Nat.zero_le _, hul, ⟨mostAt_zero _ _⟩, ⟨Kd.R_alloc US.out _⟩, ⟨below_alloc HX.out _⟩⟩
            case round =>
              clear US HX hul x0 x1
              obtain ⟨j, p, rfl, hj, hpl, HM, US, HX⟩ := hrel
              by_cases hlt2 : j < us.length
              · obtain ⟨ad2, e2, y2⟩ := Kd.at_int (Kd.C_below XC.out HX.out) (j : Int) (by omega) (by omega)
                replace e2 : adu = ad2 := Option.some.inj e2
                subst e2
                rw [Int.toNat_natCast] at y2
                obtain ⟨y0, fy0⟩ := Kd.R_celln 0 US.out (j : Int) (by omega) (by omega)
                rw [Int.toNat_natCast] at y0 fy0
                replace y0 : wr.cell? ⟨gu, j, none⟩ = some (.int .i64 (rd p (j : Int))) := y0
                have hst := mostAt_step (v := us) (p := p) (j := j) (by omega) hlt2
                obtain ⟨pa, hpa⟩ : ∃ t, t = rd p (j : Int) := ⟨_, rfl⟩
                obtain ⟨pb, hpb⟩ : ∃ t, t = rd us (j : Int) := ⟨_, rfl⟩
                rw [← hpa] at y0 hst
                rw [← hpb] at y2 hst
                have HMX : Aside0 (spec_l1Most.f pa pb = some (mx pa pb)) := ⟨by unfold spec_l1Most.f mx; split <;> split <;> first | rfl | (congr 1; omega) | omega⟩
                have gl : gu < wr.heap.size := Kd.R_lt US.out gu rfl
                have HM2 := Aside0.mk (hst.trans HM.out)
                have hj4 : j ≤ 4 := by omega
                have hjl : j < l1_1.length := by omega
                clear hst hpa hpb HM
                go_wp2_with (go_at_call 52; (with_reducible refine (spec_l1Most.calls pa pb (mx pa pb) _ HMX.out).mono ?_); rintro e w' ⟨rfl, ⟨nd, rfl⟩⟩)
                go_roundw
                case rel => first | exact ⟨j + 1, p.set j (mx pa pb), by go_num, by omega, by simp [hpl], HM2, ⟨Kd.R_putn (Kd.R_below US.out (by repeat (first | with_reducible exact Below.refl _ _ | with_reducible apply below_alloc | with_reducible apply pw_below_drewN | with_reducible apply below_drew1))) (j : Int) (mx pa pb)⟩, ⟨below_set (below_step HX.out (by repeat (first | with_reducible exact Below.refl _ _ | with_reducible apply below_alloc | with_reducible apply pw_below_drewN | with_reducible apply below_drew1))) (Kd.R_base US.out gu rfl)⟩⟩ | exact ⟨_, _, _, _, _, _, _, _, ⟨j + 1, p.set j (mx pa pb), by go_num, by omega, by simp [hpl], HM2, ⟨Kd.R_putn (Kd.R_below US.out (by repeat (first | with_reducible exact Below.refl _ _ | with_reducible apply below_alloc | with_reducible apply pw_below_drewN | with_reducible apply below_drew1))) (j : Int) (mx pa pb)⟩, ⟨below_set (below_step HX.out (by repeat (first | with_reducible exact Below.refl _ _ | with_reducible apply below_alloc | with_reducible apply pw_below_drewN | with_reducible apply below_drew1))) (Kd.R_base US.out gu rfl)⟩⟩, rfl⟩ | exact ⟨_, _, _, _, _, _, _, _, _, ⟨j + 1, p.set j (mx pa pb), by go_num, by omega, by simp [hpl], HM2, ⟨Kd.R_putn (Kd.R_below US.out (by repeat (first | with_reducible exact Below.refl _ _ | with_reducible apply below_alloc | with_reducible apply pw_below_drewN | with_reducible apply below_drew1))) (j : Int) (mx pa pb)⟩, ⟨below_set (below_step HX.out (by repeat (first | with_reducible exact Below.refl _ _ | with_reducible apply below_alloc | with_reducible apply pw_below_drewN | with_reducible apply below_drew1))) (Kd.R_base US.out gu rfl)⟩⟩, rfl⟩ | exact ⟨_, _, _, _, _, _, _, _, _, _, ⟨j + 1, p.set j (mx pa pb), by go_num, by omega, by simp [hpl], HM2, ⟨Kd.R_putn (Kd.R_below US.out (by repeat (first | with_reducible exact Below.refl _ _ | with_reducible apply below_alloc | with_reducible apply pw_below_drewN | with_reducible apply below_drew1))) (j : Int) (mx pa pb)⟩, ⟨below_set (below_step HX.out (by repeat (first | with_reducible exact Below.refl _ _ | with_reducible apply below_alloc | with_reducible apply pw_below_drewN | with_reducible apply below_drew1))) (Kd.R_base US.out gu rfl)⟩⟩, rfl⟩ | exact ⟨_, _, _, _, _, _, _, _, _, _, _, ⟨j + 1, p.set j (mx pa pb), by go_num, by omega, by simp [hpl], HM2, ⟨Kd.R_putn (Kd.R_below US.out (by repeat (first | with_reducible exact Below.refl _ _ | with_reducible apply below_alloc | with_reducible apply pw_below_drewN | with_reducible apply below_drew1))) (j : Int) (mx pa pb)⟩, ⟨below_set (below_step HX.out (by repeat (first | with_reducible exact Below.refl _ _ | with_reducible apply below_alloc | with_reducible apply pw_below_drewN | with_reducible apply below_drew1))) (Kd.R_base US.out gu rfl)⟩⟩, rfl⟩ | exact ⟨_, _, _, _, _, _, _, _, _, _, _, _, ⟨j + 1, p.set j (mx pa pb), by go_num, by omega, by simp [hpl], HM2, ⟨Kd.R_putn (Kd.R_below US.out (by repeat (first | with_reducible exact Below.refl _ _ | with_reducible apply below_alloc | with_reducible apply pw_below_drewN | with_reducible apply below_drew1))) (j : Int) (mx pa pb)⟩, ⟨below_set (below_step HX.out (by repeat (first | with_reducible exact Below.refl _ _ | with_reducible apply below_alloc | with_reducible apply pw_below_drewN | with_reducible apply below_drew1))) (Kd.R_base US.out gu rfl)⟩⟩, rfl⟩ | exact ⟨_, _, _, _, _, _, _, _, _, _, _, _, _, ⟨j + 1, p.set j (mx pa pb), by go_num, by omega, by simp [hpl], HM2, ⟨Kd.R_putn (Kd.R_below US.out (by repeat (first | with_reducible exact Below.refl _ _ | with_reducible apply below_alloc | with_reducible apply pw_below_drewN | with_reducible apply below_drew1))) (j : Int) (mx pa pb)⟩, ⟨below_set (below_step HX.out (by repeat (first | with_reducible exact Below.refl _ _ | with_reducible apply below_alloc | with_reducible apply pw_below_drewN | with_reducible apply below_drew1))) (Kd.R_base US.out gu rfl)⟩⟩, rfl⟩ | exact ⟨_, _, _, _, _, _, _, _, _, _, _, _, _, _, ⟨j + 1, p.set j (mx pa pb), by go_num, by omega, by simp [hpl], HM2, ⟨Kd.R_putn (Kd.R_below US.out (by repeat (first | with_reducible exact Below.refl _ _ | with_reducible apply below_alloc | with_reducible apply pw_below_drewN | with_reducible apply below_drew1))) (j : Int) (mx pa pb)⟩, ⟨below_set (below_step HX.out (by repeat (first | with_reducible exact Below.refl _ _ | with_reducible apply below_alloc | with_reducible apply pw_below_drewN | with_reducible apply below_drew1))) (Kd.R_base US.out gu rfl)⟩⟩, rfl⟩ | exact ⟨_, _, _, _, _, _, _, _, _, _, _, _, _, _, _, ⟨j + 1, p.set j (mx pa pb), by go_num, by omega, by simp [hpl], HM2, ⟨Kd.R_putn (Kd.R_below US.out (by repeat (first | with_reducible exact Below.refl _ _ | with_reducible apply below_alloc | with_reducible apply pw_below_drewN | with_reducible apply below_drew1))) (j : Int) (mx pa pb)⟩, ⟨below_set (below_step HX.out (by repeat (first | with_reducible exact Below.refl _ _ | with_reducible apply below_alloc | with_reducible apply pw_below_drewN | with_reducible apply below_drew1))) (Kd.R_base US.out gu rfl)⟩⟩, rfl⟩ | exact ⟨_, _, _, _, _, _, _, _, _, _, _, _, _, _, _, _, ⟨j + 1, p.set j (mx pa pb), by go_num, by omega, by simp [hpl], HM2, ⟨Kd.R_putn (Kd.R_below US.out (by repeat (first | with_reducible exact Below.refl _ _ | with_reducible apply below_alloc | with_reducible apply pw_below_drewN | with_reducible apply below_drew1))) (j : Int) (mx pa pb)⟩, ⟨below_set (below_step HX.out (by repeat (first | with_reducible exact Below.refl _ _ | with_reducible apply below_alloc | with_reducible apply pw_below_drewN | with_reducible apply below_drew1))) (Kd.R_base US.out gu rfl)⟩⟩, rfl⟩ | exact ⟨_, _, _, _, _, _, _, _, _, _, _, _, _, _, _, _, _, ⟨j + 1, p.set j (mx pa pb), by go_num, by omega, by simp [hpl], HM2, ⟨Kd.R_putn (Kd.R_below US.out (by repeat (first | with_reducible exact Below.refl _ _ | with_reducible apply below_alloc | with_reducible apply pw_below_drewN | with_reducible apply below_drew1))) (j : Int) (mx pa pb)⟩, ⟨below_set (below_step HX.out (by repeat (first | with_reducible exact Below.refl _ _ | with_reducible apply below_alloc | with_reducible apply pw_below_drewN | with_reducible apply below_drew1))) (Kd.R_base US.out gu rfl)⟩⟩, rfl⟩ | exact ⟨_, _, _, _, _, _, _, _, _, _, _, _, _, _, _, _, _, _, ⟨j + 1, p.set j (mx pa pb), by go_num, by omega, by simp [hpl], HM2, ⟨Kd.R_putn (Kd.R_below US.out (by repeat (first | with_reducible exact Below.refl _ _ | with_reducible apply below_alloc | with_reducible apply pw_below_drewN | with_reducible apply below_drew1))) (j : Int) (mx pa pb)⟩, ⟨below_set (below_step HX.out (by repeat (first | with_reducible exact Below.refl _ _ | with_reducible apply below_alloc | with_reducible apply pw_below_drewN | with_reducible apply below_drew1))) (Kd.R_base US.out gu rfl)⟩⟩, rfl⟩ | exact ⟨_, _, _, _, _, _, _, _, _, _, _, _, _, _, _, _, _, _, _, ⟨j + 1, p.set j (mx pa pb), by go_num, by omega, by simp [hpl], HM2, ⟨Kd.R_putn (Kd.R_below US.out (by repeat (first | with_reducible exact Below.refl _ _ | with_reducible apply below_alloc | with_reducible apply pw_below_drewN | with_reducible apply below_drew1))) (j : Int) (mx pa pb)⟩, ⟨below_set (below_step HX.out (by repeat (first | with_reducible exact Below.refl _ _ | with_reducible apply below_alloc | with_reducible apply pw_below_drewN | with_reducible apply below_drew1))) (Kd.R_base US.out gu rfl)⟩⟩, rfl⟩ | exact ⟨_, _, _, _, _, _, _, _, _, _, _, _, _, _, _, _, _, _, _, _, ⟨j + 1, p.set j (mx pa pb), by go_num, by omega, by simp [hpl], HM2, ⟨Kd.R_putn (Kd.R_below US.out (by repeat (first | with_reducible exact Below.refl _ _ | with_reducible apply below_alloc | with_reducible apply pw_below_drewN | with_reducible apply below_drew1))) (j : Int) (mx pa pb)⟩, ⟨below_set (below_step HX.out (by repeat (first | with_reducible exact Below.refl _ _ | with_reducible apply below_alloc | with_reducible apply pw_below_drewN | with_reducible apply below_drew1))) (Kd.R_base US.out gu rfl)⟩⟩, rfl⟩ | exact ⟨_, _, _, _, _, _, _, _, _, _, _, _, _, _, _, _, _, _, _, _, _, ⟨j + 1, p.set j (mx pa pb), by go_num, by omega, by simp [hpl], HM2, ⟨Kd.R_putn (Kd.R_below US.out (by repeat (first | with_reducible exact Below.refl _ _ | with_reducible apply below_alloc | with_reducible apply pw_below_drewN | with_reducible apply below_drew1))) (j : Int) (mx pa pb)⟩, ⟨below_set (below_step HX.out (by repeat (first | with_reducible exact Below.refl _ _ | with_reducible apply below_alloc | with_reducible apply pw_below_drewN | with_reducible apply below_drew1))) (Kd.R_base US.out gu rfl)⟩⟩, rfl⟩ | exact ⟨_, _, _, _, _, _, _, _, _, _, _, _, _, _, _, _, _, _, _, _, _, _, ⟨j + 1, p.set j (mx pa pb), by go_num, by omega, by simp [hpl], HM2, ⟨Kd.R_putn (Kd.R_below US.out (by repeat (first | with_reducible exact Below.refl _ _ | with_reducible apply below_alloc | with_reducible apply pw_below_drewN | with_reducible apply below_drew1))) (j : Int) (mx pa pb)⟩, ⟨below_set (below_step HX.out (by repeat (first | with_reducible exact Below.refl _ _ | with_reducible apply below_alloc | with_reducible apply pw_below_drewN | with_reducible apply below_drew1))) (Kd.R_base US.out gu rfl)⟩⟩, rfl⟩ | exact ⟨_, _, _, _, _, _, _, _, _, _, _, _, _, _, _, _, _, _, _, _, _, _, _, ⟨j + 1, p.set j (mx pa pb), by go_num, by omega, by simp [hpl], HM2, ⟨Kd.R_putn (Kd.R_below US.out (by repeat (first | with_reducible exact Below.refl _ _ | with_reducible apply below_alloc | with_reducible apply pw_below_drewN | with_reducible apply below_drew1))) (j : Int) (mx pa pb)⟩, ⟨below_set (below_step HX.out (by repeat (first | with_reducible exact Below.refl _ _ | with_reducible apply below_alloc | with_reducible apply pw_below_drewN | with_reducible apply below_drew1))) (Kd.R_base US.out gu rfl)⟩⟩, rfl⟩
                case measure => simp [intOf]; omega
              · obtain rfl : j = us.length := by omega
                have hm := HM.out
                rw [mostAt_end us p (by omega)] at hm
                subst hm
                go_wp2
                go_roundw
                case rel => exact ⟨i + 1, _, by go_num, by omega, hpl, HU2, US, HX⟩
                case measure => simp [intOf]; omega
          · obtain rfl : i = m + 1 := by omega
            have h1 := HU.out
            rw [List.drop_eq_nil_iff.2 (by omega), List.foldl_nil] at h1
            subst h1
            go_wp2
            go_ret2
            exact ⟨_, rfl, Kd.R_lower US.out HB6.out.size, below_step HB6.out HX.out⟩
    · have HN2 : Aside0 (spec_ctSteps.f a2 = some false) := ⟨by rw [HN.out]; exact congrArg some (decide_eq_false hn)⟩
      rw [if_neg (fun h_ => hn h_.2)] at h
      clear HN
      go_enter Try.func28, Try.ntmps28
      go_wp2_with (first
        | ((with_reducible refine gate_dst (N := 4) rfl ?_); refine box_event ?hg (N := 4) ?hd (cs := #[.int .i64 a1_0, .slice A1_1 l1_1.length c1_1]) (t := 31) ?hr ?_; (case hd => rfl); (case hg => rfl); (case hr => first | (go_simp; done) | (go_simp; rfl)); intro g3 hg w3 hbox hb; have B3 := Aside0.mk hbox; have HB := Aside0.mk hb; have L3 : Aside0 (w.heap.size ≤ g3) := ⟨(by rw [hg]; exact Nat.le_refl _)⟩; clear hg hbox hb; have z0 := (blk_cell B3.out 0).trans rfl; have z1 := (blk_cell B3.out 1).trans rfl)
        | fail)
      refine (spec_ctState.calls K _ _ l0 a1_0 _ _ l1_1 true _ (Kd.C_below H1.out HB.out) HC1.out (Kd.C_below H2.out HB.out) HC2.out HK2.out).mono ?_
      rintro e w5 ⟨rfl, hb⟩
      replace HB := Aside0.mk (below_step HB.out hb)
      replace B3 := Aside0.mk (blk_below B3.out hb)
      clear z0 z1
      clear hb
      go_wp2_with fail
      refine (spec_ctSteps.calls a2 false _ HN2.out).mono ?_
      rintro e w5 ⟨rfl, ⟨nd, rfl⟩⟩
      replace HB := Aside0.mk (pw_below_drewN HB.out nd)
      replace B3 := Aside0.mk (blk_drewN B3.out nd)
      generalize World.drewN _ nd = w5 at HB B3 ⊢
      clear HN2
      simp only [Prod.mk.injEq] at h
      obtain ⟨rfl, rfl⟩ := h
      go_wp2
      go_ret2
      exact ⟨_, rfl, Kd.R_nil _ _ _ _ _, HB.out⟩
  · rw [if_neg (fun h_ => hok h_.1)] at h
    have HK2 : Aside0 (spec_ctState.f K l0 a1_0 l1_1 = some false) := ⟨by rw [HK.out]; exact congrArg some (decide_eq_false hok)⟩
    clear HK
    go_enter Try.func28, Try.ntmps28
    go_wp2_with (first
      | ((with_reducible refine gate_dst (N := 4) rfl ?_); refine box_event ?hg (N := 4) ?hd (cs := #[.int .i64 a1_0, .slice A1_1 l1_1.length c1_1]) (t := 31) ?hr ?_; (case hd => rfl); (case hg => rfl); (case hr => first | (go_simp; done) | (go_simp; rfl)); intro g3 hg w3 hbox hb; have B3 := Aside0.mk hbox; have HB := Aside0.mk hb; have L3 : Aside0 (w.heap.size ≤ g3) := ⟨(by rw [hg]; exact Nat.le_refl _)⟩; clear hg hbox hb; have z0 := (blk_cell B3.out 0).trans rfl; have z1 := (blk_cell B3.out 1).trans rfl)
      | fail)
    refine (spec_ctState.calls K _ _ l0 a1_0 _ _ l1_1 false _ (Kd.C_below H1.out HB.out) HC1.out (Kd.C_below H2.out HB.out) HC2.out HK2.out).mono ?_
    rintro e w5 ⟨rfl, hb⟩
    replace HB := Aside0.mk (below_step HB.out hb)
    replace B3 := Aside0.mk (blk_below B3.out hb)
    clear z0 z1
    clear hb
    simp only [Prod.mk.injEq] at h
    obtain ⟨rfl, rfl⟩ := h
    go_wp2
    go_ret2
    exact ⟨_, rfl, Kd.R_nil _ _ _ _ _, HB.out⟩
end Go.Proofs.Ytbcphkblieeemaa.P
