/- The walk of spec.LinesUsed (printed by gen_run.py). -/
import Derived.Test.YtbcphkblieeemaaYFnExactLinesUsedPx15
import Derived.Test.YtbcphkblieeemaaYFnExactLinesUsedPx33
import Derived.Test.YtbcphkblieeemaaYFnExactLinesUsedPx34
import Derived.Test.YtbcphkblieeemaaYFnExactLinesUsedVRun
import Derived.Test.YtbcphkblieeemaaYFnExactLinesUsedALines0
namespace Go.Proofs.Ytbcphkblieeemaa.P
open Go.RowKit Go.Proofs.YtbcphkblieeemaaW.PrintWords Go.Proofs.YtbcphkblieeemaaW.PrintLast Go.Proofs.YtbcphkblieeemaaW.PrintMore Go.Proofs.Ytbcphkblieeemaa.Own Go.Proofs.Ytbcphkblieeemaa.A
set_option linter.unusedVariables false
set_option linter.unusedSimpArgs false
/-! ### spec_LinesUsed: function 33 -/
def spec_LinesUsed.f (k : Nat) (l : List S55) (line : Int) (vs : List Int) (n : Int) : Option (List Int × Bool) := if l.length ≤ 1048576 ∧ vs.length ≤ 1048576 then some (resLines l line vs n) else none
set_option maxHeartbeats 4000000 in
set_option maxRecDepth 100000 in
theorem spec_LinesUsed.calls (k : Nat) (A0 : Option Addr) (c0 : Nat) (l0 : List S55) (a1_0 : Int) (A1_1 : Option Addr) (c1_1 : Nat) (l1_1 : List Int) (a2 : Int) (r1 : List Int) (r2 : Bool) (w : World) (hr0 : Kd.C k55 w A0 l0.length l0) (hc0 : l0.length ≤ c0) (hr1_1 : Kd.C (Kd.int .i64) w A1_1 l1_1.length l1_1) (hc1_1 : l1_1.length ≤ c1_1) (h : spec_LinesUsed.f k l0 a1_0 l1_1 a2 = some (r1, r2)) :
    Calls Try.prog 33 #[.slice A0 l0.length c0, .agg #[.int .i64 a1_0, .slice A1_1 l1_1.length c1_1], .int .i64 a2] w fun e w' => ∃ v0_ : Value, e = .returned (.tuple #[v0_, .bool r2]) ∧ Kd.R (Kd.int .i64) 3 w' w.heap.size (fun _ => True) v0_ r1 ∧ Below w.heap.size w w' := by
  unfold spec_LinesUsed.f at h
  by_cases hsm : l0.length ≤ 1048576 ∧ l1_1.length ≤ 1048576
  case neg => rw [if_neg hsm] at h; simp at h
  rw [if_pos hsm] at h
  replace h := Option.some.inj h
  have H1 := Aside0.mk hr0
  have H2 := Aside0.mk hr1_1
  have HC1 := Aside0.mk hc0
  have HC2 := Aside0.mk hc1_1
  unfold resLines at h
  have hu := Try.underlying31
  have hu70 := Try.underlying70
  obtain ⟨K, hK⟩ := ctState l0 a1_0 l1_1 (by simp only [maxLen]; omega) (by simp only [maxLen]; omega)
  have HK : Aside0 (spec_ctState.f K l0 a1_0 l1_1 = some (stOk l0 a1_0 l1_1)) := ⟨hK K (Nat.le_refl _)⟩
  clear hr0 hr1_1 hc0 hc1_1 hK
  have HN : Aside0 (spec_ctSteps.f a2 = some (decide (0 ≤ a2 ∧ a2 ≤ 2000))) := ⟨by unfold spec_ctSteps.f; rw [in_f]; rfl⟩
  by_cases hok : StOk l0 a1_0 l1_1
  · have HK2 : Aside0 (spec_ctState.f K l0 a1_0 l1_1 = some true) := ⟨by rw [HK.out]; exact congrArg some (decide_eq_true hok)⟩
    clear HK
    by_cases hn : 0 ≤ a2 ∧ a2 ≤ 2000
    · have HN2 : Aside0 (spec_ctSteps.f a2 = some true) := ⟨by rw [HN.out]; exact congrArg some (decide_eq_true hn)⟩
      rw [if_pos ⟨hok, hn.1, hn.2⟩] at h
      clear HN
      have HM : Aside0 (spec_ctMake.f 0 l0 a1_0 l1_1 a2 = some (makeL l0 a2.toNat 0 a1_0 l1_1 (-1))) := ⟨if_pos ⟨hsm.1, hsm.2, hok, hn.1, hn.2⟩⟩
      have hne := makeL_ne (l := l0) a2.toNat 0 a1_0 l1_1 (-1)
      have hle := makeL_len (l := l0) a2.toNat 0 a1_0 l1_1 (-1)
      have hso := makeL_ok (l := l0) a2.toNat 0 a1_0 l1_1 (-1) hok
      obtain ⟨⟨S1, Z1, bf⟩, hM⟩ : ∃ t, t = makeL l0 a2.toNat 0 a1_0 l1_1 (-1) := ⟨_, rfl⟩
      rw [← hM] at HM h hne hle hso
      simp only at hne hle hso
      obtain ⟨m, hSm⟩ : ∃ m, S1.length = m + 1 := ⟨S1.length - 1, by have := List.length_pos_iff.2 hne; omega⟩
      have hm20 : m ≤ 2000 := by omega
      have hwm : wrap64 (m : Int) = m := by unfold wrap64; omega
      have hm1 : (m : Int) < (m : Int) + 1 := by omega
      have HSO := Aside0.mk hso
      have HZL := Aside0.mk hle.2
      have HNE := Aside0.mk hne
      have H := Aside0.mk h
      clear hM hso hne hle h hok hn
      go_enter Try.func33, Try.ntmps33
      go_wp2_with (first
        | ((with_reducible refine gate_dst (N := 4) rfl ?_); refine box_event ?hg (N := 4) ?hd (cs := #[.int .i64 a1_0, .slice A1_1 l1_1.length c1_1]) (t := 31) ?hr ?_; (case hd => rfl); (case hg => rfl); (case hr => first | (go_simp; done) | (go_simp; rfl)); intro g3 hg w3 hbox hb; have B3 := Aside0.mk hbox; have HB := Aside0.mk hb; have L3 : Aside0 (w.heap.size ≤ g3) := ⟨(by rw [hg]; exact Nat.le_refl _)⟩; clear hg hbox hb; have z0 := (blk_cell B3.out 0).trans rfl; have z1 := (blk_cell B3.out 1).trans rfl)
        | fail)
      refine (spec_ctState.calls K _ _ l0 a1_0 _ _ l1_1 true _ (Kd.C_below H1.out HB.out) HC1.out (Kd.C_below H2.out HB.out) HC2.out HK2.out).mono ?_
      rintro e w5 ⟨rfl, hb⟩
      replace HB := Aside0.mk (below_step HB.out hb)
      replace B3 := Aside0.mk (blk_below B3.out hb)
      clear z0 z1
      clear hb
      go_wp2_with fail
      refine (spec_ctSteps.calls a2 true _ HN2.out).mono ?_
      rintro e w5 ⟨rfl, ⟨nd, rfl⟩⟩
      replace HB := Aside0.mk (pw_below_drewN HB.out nd)
      replace B3 := Aside0.mk (blk_drewN B3.out nd)
      generalize World.drewN _ nd = w5 at HB B3 ⊢
      clear HN2
      have z0 := (blk_cell B3.out 0).trans rfl
      have z1 := (blk_cell B3.out 1).trans rfl
      go_wp2_with fail
      refine (spec_ctMake.calls 0 _ _ l0 a1_0 _ _ l1_1 a2 S1 Z1 bf _ (Kd.C_below H1.out HB.out) HC1.out (Kd.C_below H2.out HB.out) HC2.out HM.out).mono ?_
      rintro e w6 ⟨g, rfl, gs, cs, gz, cz, hR⟩
      have RN := Aside0.mk hR
      have HB6 := Aside0.mk (below_step HB.out hR.be)
      clear hR B3 z0 z1
      have s2 := (blk_cell RN.out.box 2).trans rfl
      cases bf with
      | true =>
        have hh := H.out
        rw [if_pos rfl] at hh
        simp only [Prod.mk.injEq] at hh
        obtain ⟨rfl, rfl⟩ := hh
        go_wp2
        go_ret2
        exact ⟨_, rfl, Kd.R_nil _ _ _ _ _, HB6.out⟩
      | false =>
        have hh := H.out
        clear H
        rw [if_neg (by simp)] at hh
        unfold linesL at hh
        simp only [Prod.mk.injEq] at hh
        obtain ⟨hh1, rfl⟩ := hh
        obtain ⟨uF, huF⟩ : ∃ u, u = S1.foldl markS (List.replicate (l0.length + 1) false) := ⟨_, rfl⟩
        rw [← huF] at hh1
        have hul : uF.length = l0.length + 1 := by rw [huF, markS_len]; simp
        have hl20 : l0.length ≤ 20 := by have := (HSO.out _ (lastS_mem HNE.out)).1.1.2.2.2.2; omega
        have hwl : wrap64 ((l0.length : Int) + 1) = (l0.length : Int) + 1 := by unfold wrap64; omega
        obtain ⟨_, _, hC6⟩ := Kd.R_reads' RN.out.st
        obtain ⟨ad, had⟩ : ∃ ad, ad = (⟨gs, 0, none⟩ : Addr) := ⟨_, rfl⟩
        have s0 : w6.cell? ⟨g, 0, none⟩ = some (.slice (some ad) S1.length cs) := by rw [had]; exact (blk_cell RN.out.box 0).trans rfl
        rw [← had] at hC6
        have XS := Aside0.mk hC6
        clear hC6 had
        have HX := Aside0.mk (Below.refl w6.heap.size w6)
        have UF := Aside0.mk huF
        have UL := Aside0.mk hul
        have HH := Aside0.mk hh1
        clear huF hul hh1 RN
        go_wp2_with (first
          | ((with_reducible refine gate_dst (N := 35) rfl ?_); refine Kd.R_make Kd.bool (w0 := w6) w6.heap.size 4 rfl (N := 35) rfl 74 _ _ rfl ((l0.length : Int) + 1) ?hx ?hy Try.underlying74 (.bool false) 1 infoB rfl (by decide) (by decide) false (ok := fun _ => True) (okp := fun _ => True) rfl (fun _ hk => hk) trivial (by omega) (by omega) HX.out HX.out.size ?_; (case hx => first | rfl | (simp [Act.eval, hwl]; done)); (case hy => first | rfl | (simp [Act.eval, hwl]; done)); intro vu w7 ho hb hg _; rw [show ((l0.length : Int) + 1).toNat = l0.length + 1 by omega] at ho; obtain ⟨gu, cu, eu, _, _, _⟩ := Kd.R_form ho (by simp); replace eu : vu = .slice (some ⟨gu, 0, none⟩) (List.replicate (l0.length + 1) false).length cu := eu; rw [List.length_replicate] at eu; subst eu; have US := Aside0.mk ho; replace HX := Aside0.mk hb; clear ho hb hg; replace s0 := (Below.cell HX.out (World.block_lt_of_cell? w6 _ s0)).trans s0)
          | fail)
        go_loopw [41] (fun v41 wr => ∃ (i : Nat) (u : List Bool), v41 = .int .i64 i ∧ i ≤ m + 1 ∧ Aside0 ((S1.drop i).foldl markS u = uF) ∧ Aside0 (Kd.R Kd.bool 4 wr w6.heap.size (fun _ => True) (.slice (some ⟨gu, 0, none⟩) (l0.length + 1) cu) u) ∧ Aside0 (Below w6.heap.size w6 wr)) (fun i _ => m + 1 - (intOf i).toNat)
        case atStart => exact ⟨0, _, rfl, Nat.zero_le _, ⟨UF.out.symm⟩, US, HX⟩
        case round =>
          clear US HX s0
          obtain ⟨i, u, rfl, hi, HU, US, HX⟩ := hrel
          by_cases hlt : i < m + 1
          · obtain ⟨ad', A1, c1, ea, x0, x1, xl, xC⟩ := at_T31 (Kd.C_below XS.out HX.out) (i : Int) (by omega) (by omega)
            replace ea : ad = ad' := Option.some.inj ea
            subst ea
            obtain ⟨⟨ln, us⟩, hs⟩ : ∃ s, s = rd_T31 S1 (i : Int) := ⟨_, rfl⟩
            rw [← hs] at x0 x1 xl xC
            rw [Int.toNat_natCast] at x0 x1
            simp only at x0 x1
            have hmem : (⟨ln, us⟩ : S31) ∈ S1 := by rw [hs]; exact rdT_mem (by omega) (by omega)
            have hln := (HSO.out _ hmem).1.2.1
            simp only at hln
            have hdrop : S1.drop i = ⟨ln, us⟩ :: S1.drop (i + 1) := by
              rw [List.drop_eq_getElem_cons (by omega)]; congr 1; rw [hs]; simp [rd_T31, List.getD_eq_getElem?_getD, show i < S1.length by omega]
            have h1 := HU.out
            rw [hdrop, List.foldl_cons] at h1
            have HU2 := Aside0.mk h1
            obtain ⟨y0, fy0⟩ := Kd.R_celln false US.out ln hln.1 (by omega)
            obtain ⟨bb, hbb⟩ : ∃ b, b = rdOf false u ln := ⟨_, rfl⟩
            replace y0 : wr.cell? ⟨gu, ln.toNat, none⟩ = some (.bool bb) := by rw [hbb]; exact y0
            have gl : gu < wr.heap.size := Kd.R_lt US.out gu rfl
            have hln0 := hln.1
            have hln1 : ln < (l0.length : Int) + 1 := by omega
            clear hs hmem hln hdrop h1 HU hbb xl xC
            go_wp2
            go_roundw
            case rel => exact ⟨i + 1, u.set ln.toNat true, by go_num, by omega, HU2, ⟨Kd.R_alloc (Kd.R_putn US.out ln true) _⟩, ⟨below_alloc (below_set HX.out (Kd.R_base US.out gu rfl)) _⟩⟩
            case measure => simp [intOf]; omega
          · obtain rfl : i = m + 1 := by omega
            have h1 := HU.out
            rw [List.drop_eq_nil_iff.2 (by omega), List.foldl_nil] at h1
            subst h1
            obtain ⟨adu, hadu⟩ : ∃ a, a = (⟨gu, 0, none⟩ : Addr) := ⟨_, rfl⟩
            have UC := Aside0.mk (Kd.R_reads' US.out).2.2
            have ull := UL.out
            rw [← hadu] at UC
            clear HU UF
            obtain ⟨wL, rfl⟩ : ∃ x, x = wr := ⟨wr, rfl⟩
            have HX2 := Aside0.mk (Below.refl wL.heap.size wL)
            rw [← hadu]
            clear hadu
            go_wp2
            go_loopw [12, 52] (fun v12 v52 wr => ∃ (i : Nat) (ou : List Int), v52 = .int .i64 i ∧ i ≤ l0.length + 1 ∧ ou.length ≤ i ∧ Aside0 (ou ++ pickL (u.drop i) (i : Int) = r1) ∧ Aside0 (Kd.R (Kd.int .i64) 3 wr wL.heap.size (fun _ => True) v12 ou) ∧ Aside0 (Below wL.heap.size wL wr)) (fun _ i _ => l0.length + 1 - (intOf i).toNat)
            case atStart => exact ⟨0, [], rfl, Nat.zero_le _, Nat.le_refl _, ⟨by simpa using HH.out⟩, ⟨Kd.R_nil _ _ _ _ _⟩, HX2⟩
            case round =>
              clear HH HX2
              obtain ⟨i2, ou, rfl, hi2, hol, HP, OU, HX2⟩ := hrel
              by_cases hlt2 : i2 < l0.length + 1
              · obtain ⟨ad', ea, y0⟩ := Kd.at_bool (Kd.C_below UC.out HX2.out) (i2 : Int) (by omega) (by omega)
                replace ea : adu = ad' := Option.some.inj ea
                subst ea
                obtain ⟨b, hb⟩ : ∃ b, b = rdOf false u (i2 : Int) := ⟨_, rfl⟩
                rw [← hb, Int.toNat_natCast] at y0
                have hdrop : u.drop i2 = b :: u.drop (i2 + 1) := by
                  rw [List.drop_eq_getElem_cons (by omega)]; congr 1; rw [hb]; simp [rdOf, List.getD_eq_getElem?_getD, show i2 < u.length by omega]
                have hp := HP.out
                rw [hdrop, pickL] at hp
                have hi1000 : i2 ≤ 100 := by omega
                clear hdrop hb HP
                cases b with
                | true =>
                  rw [if_pos rfl] at hp
                  have HP2 : Aside0 (ou ++ [(i2 : Int)] ++ pickL (u.drop (i2 + 1)) ((i2 + 1 : Nat) : Int) = r1) := ⟨by rw [← hp]; simp⟩
                  clear hp
                  go_wp2_with (first
                    | ((with_reducible refine gate_builtin (b := .append) (xs := #[.tmp 58, .tmp 60]) rfl ?_); at_builtin; refine Kd.R_append (Kd.int .i64) (w0 := wL) wL.heap.size rfl (.tmp 58) (.tmp 60) 23 3 (.int .i64 0) 8 rfl Try.underlying23 info3 rfl (by decide) (by omega) u12 ou (i2 : Int) [.int .i64 (i2 : Int)] (fun _ => True) (fun _ => False) rfl rfl rfl (fun _ h => h.elim) (fun _ _ => trivial) OU.out HX2.out HX2.out.size (by omega) ?_; intro v7 w8 ho hb hg hat; replace OU := Aside0.mk ho; replace HX2 := Aside0.mk hb; clear ho hb hg hat)
                    | fail)
                  go_roundw
                  case rel => refine ⟨_, _, _, _, _, _, _, _, _, _, _, _, _, _, ⟨i2 + 1, ou ++ [(i2 : Int)], by go_num, by omega, by simp; omega, HP2, OU, HX2⟩, rfl⟩
                  case measure => simp [intOf]; omega
                | false =>
                  rw [if_neg (by simp)] at hp
                  have HP2 : Aside0 (ou ++ pickL (u.drop (i2 + 1)) ((i2 + 1 : Nat) : Int) = r1) := ⟨by rw [← hp]; simp⟩
                  clear hp
                  go_wp2
                  go_roundw
                  case rel => exact ⟨i2 + 1, ou, by go_num, by omega, by omega, HP2, OU, HX2⟩
                  case measure => simp [intOf]; omega
              · have hp := HP.out
                rw [List.drop_eq_nil_iff.2 (by omega), pickL, List.append_nil] at hp
                subst hp
                go_wp2
                go_ret2
                exact ⟨_, rfl, Kd.R_mono (Kd.R_lower OU.out (Nat.le_trans HB6.out.size HX.out.size)) (fun _ _ => trivial), below_step (below_step HB6.out HX.out) HX2.out⟩
    · have HN2 : Aside0 (spec_ctSteps.f a2 = some false) := ⟨by rw [HN.out]; exact congrArg some (decide_eq_false hn)⟩
      rw [if_neg (fun h_ => hn h_.2)] at h
      clear HN
      go_enter Try.func33, Try.ntmps33
      go_wp2_with (first
        | ((with_reducible refine gate_dst (N := 4) rfl ?_); refine box_event ?hg (N := 4) ?hd (cs := #[.int .i64 a1_0, .slice A1_1 l1_1.length c1_1]) (t := 31) ?hr ?_; (case hd => rfl); (case hg => rfl); (case hr => first | (go_simp; done) | (go_simp; rfl)); intro g3 hg w3 hbox hb; have B3 := Aside0.mk hbox; have HB := Aside0.mk hb; have L3 : Aside0 (w.heap.size ≤ g3) := ⟨(by rw [hg]; exact Nat.le_refl _)⟩; clear hg hbox hb; have z0 := (blk_cell B3.out 0).trans rfl; have z1 := (blk_cell B3.out 1).trans rfl)
        | fail)
      refine (spec_ctState.calls K _ _ l0 a1_0 _ _ l1_1 true _ (Kd.C_below H1.out HB.out) HC1.out (Kd.C_below H2.out HB.out) HC2.out HK2.out).mono ?_
      rintro e w5 ⟨rfl, hb⟩
      replace HB := Aside0.mk (below_step HB.out hb)
      replace B3 := Aside0.mk (blk_below B3.out hb)
      clear z0 z1
      clear hb
      go_wp2_with fail
      refine (spec_ctSteps.calls a2 false _ HN2.out).mono ?_
      rintro e w5 ⟨rfl, ⟨nd, rfl⟩⟩
      replace HB := Aside0.mk (pw_below_drewN HB.out nd)
      replace B3 := Aside0.mk (blk_drewN B3.out nd)
      generalize World.drewN _ nd = w5 at HB B3 ⊢
      clear HN2
      simp only [Prod.mk.injEq] at h
      obtain ⟨rfl, rfl⟩ := h
      go_wp2
      go_ret2
      exact ⟨_, rfl, Kd.R_nil _ _ _ _ _, HB.out⟩
  · rw [if_neg (fun h_ => hok h_.1)] at h
    have HK2 : Aside0 (spec_ctState.f K l0 a1_0 l1_1 = some false) := ⟨by rw [HK.out]; exact congrArg some (decide_eq_false hok)⟩
    clear HK
    go_enter Try.func33, Try.ntmps33
    go_wp2_with (first
      | ((with_reducible refine gate_dst (N := 4) rfl ?_); refine box_event ?hg (N := 4) ?hd (cs := #[.int .i64 a1_0, .slice A1_1 l1_1.length c1_1]) (t := 31) ?hr ?_; (case hd => rfl); (case hg => rfl); (case hr => first | (go_simp; done) | (go_simp; rfl)); intro g3 hg w3 hbox hb; have B3 := Aside0.mk hbox; have HB := Aside0.mk hb; have L3 : Aside0 (w.heap.size ≤ g3) := ⟨(by rw [hg]; exact Nat.le_refl _)⟩; clear hg hbox hb; have z0 := (blk_cell B3.out 0).trans rfl; have z1 := (blk_cell B3.out 1).trans rfl)
      | fail)
    refine (spec_ctState.calls K _ _ l0 a1_0 _ _ l1_1 false _ (Kd.C_below H1.out HB.out) HC1.out (Kd.C_below H2.out HB.out) HC2.out HK2.out).mono ?_
    rintro e w5 ⟨rfl, hb⟩
    replace HB := Aside0.mk (below_step HB.out hb)
    replace B3 := Aside0.mk (blk_below B3.out hb)
    clear z0 z1
    clear hb
    simp only [Prod.mk.injEq] at h
    obtain ⟨rfl, rfl⟩ := h
    go_wp2
    go_ret2
    exact ⟨_, rfl, Kd.R_nil _ _ _ _ _, HB.out⟩
end Go.Proofs.Ytbcphkblieeemaa.P
