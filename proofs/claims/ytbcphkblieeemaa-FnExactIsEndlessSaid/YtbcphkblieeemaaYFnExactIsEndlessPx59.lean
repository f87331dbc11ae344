/- The walk of spec.IsEndless (printed by gen_run.py). -/
import Derived.Test.YtbcphkblieeemaaZFnExactIsEndless0
import Derived.Test.YtbcphkblieeemaaYFnExactIsEndlessPx34
import Derived.Test.YtbcphkblieeemaaYFnExactIsEndlessVPair
namespace Go.Proofs.Ytbcphkblieeemaa.P
open Go.RowKit Go.Proofs.YtbcphkblieeemaaW.PrintWords Go.Proofs.YtbcphkblieeemaaW.PrintLast Go.Proofs.YtbcphkblieeemaaW.PrintMore Go.Proofs.Ytbcphkblieeemaa.Own Go.Proofs.Ytbcphkblieeemaa.A
set_option linter.unusedVariables false
set_option linter.unusedSimpArgs false
/-! ### spec_IsEndless: function 37 -/
def spec_IsEndless.f (k : Nat) (l : List S55) (line : Int) (vs : List Int) (i n : Int) : Option (Bool × Bool) := if l.length ≤ 1048576 ∧ vs.length ≤ 1048576 then some (resEnd l line vs i n) else none
set_option maxHeartbeats 4000000 in
set_option maxRecDepth 100000 in
theorem spec_IsEndless.calls (k : Nat) (A0 : Option Addr) (c0 : Nat) (l0 : List S55) (a1_0 : Int) (A1_1 : Option Addr) (c1_1 : Nat) (l1_1 : List Int) (a2 : Int) (a3 : Int) (r1 : Bool) (r2 : Bool) (w : World) (hr0 : Kd.C k55 w A0 l0.length l0) (hc0 : l0.length ≤ c0) (hr1_1 : Kd.C (Kd.int .i64) w A1_1 l1_1.length l1_1) (hc1_1 : l1_1.length ≤ c1_1) (h : spec_IsEndless.f k l0 a1_0 l1_1 a2 a3 = some (r1, r2)) :
    Calls Try.prog 37 #[.slice A0 l0.length c0, .agg #[.int .i64 a1_0, .slice A1_1 l1_1.length c1_1], .int .i64 a2, .int .i64 a3] w fun e w' => e = .returned (.tuple #[.bool r1, .bool r2]) ∧ Below w.heap.size w w' := by
  unfold spec_IsEndless.f at h
  by_cases hsm : l0.length ≤ 1048576 ∧ l1_1.length ≤ 1048576
  case neg => rw [if_neg hsm] at h; simp at h
  rw [if_pos hsm] at h
  replace h := Option.some.inj h
  have H1 := Aside0.mk hr0
  have H2 := Aside0.mk hr1_1
  have HC1 := Aside0.mk hc0
  have HC2 := Aside0.mk hc1_1
  unfold resEnd at h
  have hu := Try.underlying31
  have hu70 := Try.underlying70
  obtain ⟨K, hK⟩ := ctState l0 a1_0 l1_1 (by simp only [maxLen]; omega) (by simp only [maxLen]; omega)
  have HK : Aside0 (spec_ctState.f K l0 a1_0 l1_1 = some (stOk l0 a1_0 l1_1)) := ⟨hK K (Nat.le_refl _)⟩
  clear hr0 hr1_1 hc0 hc1_1 hK
  have HN1 : Aside0 (spec_l1In.f a2 0 1999 = some (decide (0 ≤ a2 ∧ a2 ≤ 1999))) := ⟨in_f _ _ _⟩
  have HN3 : Aside0 (spec_l1In.f a3 (a2 + 1) 2000 = some (decide (a2 + 1 ≤ a3 ∧ a3 ≤ 2000))) := ⟨in_f _ _ _⟩
  by_cases hok : StOk l0 a1_0 l1_1
  · have HK2 : Aside0 (spec_ctState.f K l0 a1_0 l1_1 = some true) := ⟨by rw [HK.out]; exact congrArg some (decide_eq_true hok)⟩
    clear HK
    by_cases hi : 0 ≤ a2 ∧ a2 ≤ 1999
    · have HA : Aside0 (spec_l1In.f a2 0 1999 = some true) := ⟨by rw [HN1.out]; exact congrArg some (decide_eq_true hi)⟩
      clear HN1
      have hw1 : wrap64 (a2 + 1) = a2 + 1 := by unfold wrap64; omega
      by_cases hk : a2 + 1 ≤ a3 ∧ a3 ≤ 2000
      · have HD : Aside0 (spec_l1In.f a3 (a2 + 1) 2000 = some true) := ⟨by rw [HN3.out]; exact congrArg some (decide_eq_true hk)⟩
        clear HN3
        rw [if_pos ⟨hok, hi.1, by omega, hk.2⟩] at h
        obtain ⟨iN, rfl⟩ := Int.eq_ofNat_of_zero_le hi.1
        obtain ⟨kN, rfl⟩ := Int.eq_ofNat_of_zero_le (show 0 ≤ a3 by omega)
        simp only [Int.toNat_natCast] at h
        have hik : iN < kN := by omega
        have hk20 : kN ≤ 2000 := by omega
        have HM : Aside0 (spec_ctMake.f 0 l0 a1_0 l1_1 (kN : Int) = some (makeL l0 kN 0 a1_0 l1_1 (-1))) := ⟨(if_pos ⟨hsm.1, hsm.2, hok, by omega, by omega⟩).trans (by rw [Int.toNat_natCast])⟩
        have hle := makeL_len (l := l0) kN 0 a1_0 l1_1 (-1)
        have hso := makeL_ok (l := l0) kN 0 a1_0 l1_1 (-1) hok
        obtain ⟨⟨S1, Z1, bf⟩, hM⟩ : ∃ t, t = makeL l0 kN 0 a1_0 l1_1 (-1) := ⟨_, rfl⟩
        rw [← hM] at HM h hle hso
        simp only at h hle hso
        have HSO := Aside0.mk hso
        have HZL := Aside0.mk hle.2
        have HLE := Aside0.mk hle.1
        have H := Aside0.mk h
        clear hM hso hle h hok hi hk
        go_enter Try.func37, Try.ntmps37
        go_wp2_with (first
          | ((with_reducible refine gate_dst (N := 5) rfl ?_); refine box_event ?hg (N := 5) ?hd (cs := #[.int .i64 a1_0, .slice A1_1 l1_1.length c1_1]) (t := 31) ?hr ?_; (case hd => rfl); (case hg => rfl); (case hr => first | (go_simp; done) | (go_simp; rfl)); intro g3 hg w3 hbox hb; have B3 := Aside0.mk hbox; have HB := Aside0.mk hb; have L3 : Aside0 (w.heap.size ≤ g3) := ⟨(by rw [hg]; exact Nat.le_refl _)⟩; clear hg hbox hb; have z0 := (blk_cell B3.out 0).trans rfl; have z1 := (blk_cell B3.out 1).trans rfl)
          | fail)
        refine (spec_ctState.calls K _ _ l0 a1_0 _ _ l1_1 true _ (Kd.C_below H1.out HB.out) HC1.out (Kd.C_below H2.out HB.out) HC2.out HK2.out).mono ?_
        rintro e w5 ⟨rfl, hb⟩
        replace HB := Aside0.mk (below_step HB.out hb)
        replace B3 := Aside0.mk (blk_below B3.out hb)
        clear z0 z1 hb
        go_wp2_with fail
        refine (spec_l1In.calls (iN : Int) 0 1999 true _ HA.out).mono ?_
        rintro e w5 ⟨rfl, ⟨nd, rfl⟩⟩
        replace HB := Aside0.mk (pw_below_drewN HB.out nd)
        replace B3 := Aside0.mk (blk_drewN B3.out nd)
        generalize World.drewN _ nd = w5 at HB B3 ⊢
        go_wp2_with fail
        refine (spec_l1In.calls (kN : Int) ((iN : Int) + 1) 2000 true _ HD.out).mono ?_
        rintro e w5 ⟨rfl, ⟨nd, rfl⟩⟩
        replace HB := Aside0.mk (pw_below_drewN HB.out nd)
        replace B3 := Aside0.mk (blk_drewN B3.out nd)
        generalize World.drewN _ nd = w5 at HB B3 ⊢
        have z0 := (blk_cell B3.out 0).trans rfl
        have z1 := (blk_cell B3.out 1).trans rfl
        go_wp2_with fail
        refine (spec_ctMake.calls 0 _ _ l0 a1_0 _ _ l1_1 (kN : Int) S1 Z1 bf _ (Kd.C_below H1.out HB.out) HC1.out (Kd.C_below H2.out HB.out) HC2.out HM.out).mono ?_
        rintro e w6 ⟨g, rfl, gs, cs, gz, cz, hR⟩
        have RN := Aside0.mk hR
        have HB6 := Aside0.mk (below_step HB.out hR.be)
        clear hR B3 z0 z1
        have s2 := (blk_cell RN.out.box 2).trans rfl
        have s0 := (blk_cell RN.out.box 0).trans rfl
        have hh := H.out
        clear H
        cases bf with
        | true =>
          rw [if_pos rfl] at hh
          simp only [Prod.mk.injEq] at hh
          obtain ⟨rfl, rfl⟩ := hh
          go_wp2
          go_ret2
          exact ⟨rfl, HB6.out⟩
        | false =>
          rw [if_neg (by simp)] at hh
          simp only [Prod.mk.injEq] at hh
          obtain ⟨hh1, rfl⟩ := hh
          have hwk : wrap64 ((kN : Int) + 1) = (kN : Int) + 1 := by unfold wrap64; omega
          by_cases hl : S1.length = kN + 1
          · rw [show (S1.length == kN + 1) = true by simpa using hl, Bool.true_and] at hh1
            have HL := Aside0.mk hl
            have dl : ((S1.length : Int) == (kN : Int) + 1) = true := by rw [hl]; simp
            obtain ⟨p0, hp0⟩ : ∃ p, p = pairB l0 S1 Z1 false iN kN := ⟨_, rfl⟩
            obtain ⟨p1, hp1⟩ : ∃ p, p = pairB l0 S1 Z1 true iN kN := ⟨_, rfl⟩
            rw [← hp0, ← hp1] at hh1
            have P0 := Aside0.mk hp0
            have P1 := Aside0.mk hp1
            clear hp0 hp1 hl
            go_wp2_with fail
            refine (ctPair_own A0 c0 l0 g cs cz l1_1.length ⟨gs, 0, none⟩ ⟨gz, 0, none⟩ S1 Z1 false iN kN false _ RN.out.box (Kd.R_reads' RN.out.st).2.2 (Kd.R_reads' RN.out.ze).2.2 (Kd.C_below H1.out HB6.out) HC1.out HSO.out HZL.out (by have := HL.out; omega) (by have := HL.out; omega) (by have := HL.out; omega)).mono ?_
            rintro e w7 ⟨rfl, hb⟩
            replace RN := Aside0.mk (RN.out.below hb)
            replace HB6 := Aside0.mk (below_step HB6.out hb)
            rw [← P0.out]
            clear hb s0 s2
            cases p0 with
            | true =>
              rw [Bool.true_or] at hh1
              subst hh1
              go_wp2
              go_ret2
              exact ⟨rfl, HB6.out⟩
            | false =>
              rw [Bool.false_or] at hh1
              subst hh1
              go_wp2_with fail
              refine (ctPair_own A0 c0 l0 g cs cz l1_1.length ⟨gs, 0, none⟩ ⟨gz, 0, none⟩ S1 Z1 false iN kN true _ RN.out.box (Kd.R_reads' RN.out.st).2.2 (Kd.R_reads' RN.out.ze).2.2 (Kd.C_below H1.out HB6.out) HC1.out HSO.out HZL.out (by have := HL.out; omega) (by have := HL.out; omega) (by have := HL.out; omega)).mono ?_
              rintro e w8 ⟨rfl, hb⟩
              replace HB6 := Aside0.mk (below_step HB6.out hb)
              rw [← P1.out]
              clear hb
              go_wp2
              go_ret2
              exact ⟨rfl, HB6.out⟩
          · rw [show (S1.length == kN + 1) = false by simpa using hl, Bool.false_and] at hh1
            subst hh1
            have dl : ((S1.length : Int) == (kN : Int) + 1) = false := by simp; omega
            clear hl
            go_wp2
            go_ret2
            exact ⟨rfl, HB6.out⟩
      · have HD : Aside0 (spec_l1In.f a3 (a2 + 1) 2000 = some false) := ⟨by rw [HN3.out]; exact congrArg some (decide_eq_false hk)⟩
        clear HN3
        rw [if_neg (fun h_ => hk ⟨by omega, h_.2.2.2⟩)] at h
        go_enter Try.func37, Try.ntmps37
        go_wp2_with (first
          | ((with_reducible refine gate_dst (N := 5) rfl ?_); refine box_event ?hg (N := 5) ?hd (cs := #[.int .i64 a1_0, .slice A1_1 l1_1.length c1_1]) (t := 31) ?hr ?_; (case hd => rfl); (case hg => rfl); (case hr => first | (go_simp; done) | (go_simp; rfl)); intro g3 hg w3 hbox hb; have B3 := Aside0.mk hbox; have HB := Aside0.mk hb; have L3 : Aside0 (w.heap.size ≤ g3) := ⟨(by rw [hg]; exact Nat.le_refl _)⟩; clear hg hbox hb; have z0 := (blk_cell B3.out 0).trans rfl; have z1 := (blk_cell B3.out 1).trans rfl)
          | fail)
        refine (spec_ctState.calls K _ _ l0 a1_0 _ _ l1_1 true _ (Kd.C_below H1.out HB.out) HC1.out (Kd.C_below H2.out HB.out) HC2.out HK2.out).mono ?_
        rintro e w5 ⟨rfl, hb⟩
        replace HB := Aside0.mk (below_step HB.out hb)
        replace B3 := Aside0.mk (blk_below B3.out hb)
        clear z0 z1 hb
        go_wp2_with fail
        refine (spec_l1In.calls a2 0 1999 true _ HA.out).mono ?_
        rintro e w5 ⟨rfl, ⟨nd, rfl⟩⟩
        replace HB := Aside0.mk (pw_below_drewN HB.out nd)
        replace B3 := Aside0.mk (blk_drewN B3.out nd)
        generalize World.drewN _ nd = w5 at HB B3 ⊢
        go_wp2_with fail
        refine (spec_l1In.calls a3 (a2 + 1) 2000 false _ HD.out).mono ?_
        rintro e w5 ⟨rfl, ⟨nd, rfl⟩⟩
        replace HB := Aside0.mk (pw_below_drewN HB.out nd)
        replace B3 := Aside0.mk (blk_drewN B3.out nd)
        generalize World.drewN _ nd = w5 at HB B3 ⊢
        simp only [Prod.mk.injEq] at h
        obtain ⟨rfl, rfl⟩ := h
        go_wp2
        go_ret2
        exact ⟨rfl, HB.out⟩
    · have HA : Aside0 (spec_l1In.f a2 0 1999 = some false) := ⟨by rw [HN1.out]; exact congrArg some (decide_eq_false hi)⟩
      clear HN1
      rw [if_neg (fun h_ => hi ⟨h_.2.1, by omega⟩)] at h
      go_enter Try.func37, Try.ntmps37
      go_wp2_with (first
        | ((with_reducible refine gate_dst (N := 5) rfl ?_); refine box_event ?hg (N := 5) ?hd (cs := #[.int .i64 a1_0, .slice A1_1 l1_1.length c1_1]) (t := 31) ?hr ?_; (case hd => rfl); (case hg => rfl); (case hr => first | (go_simp; done) | (go_simp; rfl)); intro g3 hg w3 hbox hb; have B3 := Aside0.mk hbox; have HB := Aside0.mk hb; have L3 : Aside0 (w.heap.size ≤ g3) := ⟨(by rw [hg]; exact Nat.le_refl _)⟩; clear hg hbox hb; have z0 := (blk_cell B3.out 0).trans rfl; have z1 := (blk_cell B3.out 1).trans rfl)
        | fail)
      refine (spec_ctState.calls K _ _ l0 a1_0 _ _ l1_1 true _ (Kd.C_below H1.out HB.out) HC1.out (Kd.C_below H2.out HB.out) HC2.out HK2.out).mono ?_
      rintro e w5 ⟨rfl, hb⟩
      replace HB := Aside0.mk (below_step HB.out hb)
      replace B3 := Aside0.mk (blk_below B3.out hb)
      clear z0 z1 hb
      go_wp2_with fail
      refine (spec_l1In.calls a2 0 1999 false _ HA.out).mono ?_
      rintro e w5 ⟨rfl, ⟨nd, rfl⟩⟩
      replace HB := Aside0.mk (pw_below_drewN HB.out nd)
      replace B3 := Aside0.mk (blk_drewN B3.out nd)
      generalize World.drewN _ nd = w5 at HB B3 ⊢
      simp only [Prod.mk.injEq] at h
      obtain ⟨rfl, rfl⟩ := h
      go_wp2
      go_ret2
      exact ⟨rfl, HB.out⟩
  · rw [if_neg (fun h_ => hok h_.1)] at h
    have HK2 : Aside0 (spec_ctState.f K l0 a1_0 l1_1 = some false) := ⟨by rw [HK.out]; exact congrArg some (decide_eq_false hok)⟩
    clear HK
    go_enter Try.func37, Try.ntmps37
    go_wp2_with (first
      | ((with_reducible refine gate_dst (N := 5) rfl ?_); refine box_event ?hg (N := 5) ?hd (cs := #[.int .i64 a1_0, .slice A1_1 l1_1.length c1_1]) (t := 31) ?hr ?_; (case hd => rfl); (case hg => rfl); (case hr => first | (go_simp; done) | (go_simp; rfl)); intro g3 hg w3 hbox hb; have B3 := Aside0.mk hbox; have HB := Aside0.mk hb; have L3 : Aside0 (w.heap.size ≤ g3) := ⟨(by rw [hg]; exact Nat.le_refl _)⟩; clear hg hbox hb; have z0 := (blk_cell B3.out 0).trans rfl; have z1 := (blk_cell B3.out 1).trans rfl)
      | fail)
    refine (spec_ctState.calls K _ _ l0 a1_0 _ _ l1_1 false _ (Kd.C_below H1.out HB.out) HC1.out (Kd.C_below H2.out HB.out) HC2.out HK2.out).mono ?_
    rintro e w5 ⟨rfl, hb⟩
    replace HB := Aside0.mk (below_step HB.out hb)
    replace B3 := Aside0.mk (blk_below B3.out hb)
    clear z0 z1 hb
    simp only [Prod.mk.injEq] at h
    obtain ⟨rfl, rfl⟩ := h
    go_wp2
    go_ret2
    exact ⟨rfl, HB.out⟩
end Go.Proofs.Ytbcphkblieeemaa.P
