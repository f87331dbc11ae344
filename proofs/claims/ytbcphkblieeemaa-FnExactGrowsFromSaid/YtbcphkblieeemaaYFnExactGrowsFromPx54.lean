/- The walk of spec.GrowsFrom (printed by gen_run.py). -/
import Derived.Test.YtbcphkblieeemaaZFnExactGrowsFrom0
import Derived.Test.YtbcphkblieeemaaYFnExactGrowsFromPx34
import Derived.Test.YtbcphkblieeemaaYFnExactGrowsFromVFind
namespace Go.Proofs.Ytbcphkblieeemaa.P
open Go.RowKit Go.Proofs.YtbcphkblieeemaaW.PrintWords Go.Proofs.YtbcphkblieeemaaW.PrintLast Go.Proofs.YtbcphkblieeemaaW.PrintMore Go.Proofs.Ytbcphkblieeemaa.Own Go.Proofs.Ytbcphkblieeemaa.A
set_option linter.unusedVariables false
set_option linter.unusedSimpArgs false
/-! ### spec_GrowsFrom: function 35 -/
def spec_GrowsFrom.f (k : Nat) (l : List S55) (line : Int) (vs : List Int) (n : Int) : Option (Int × Int × Bool) := if l.length ≤ 1048576 ∧ vs.length ≤ 1048576 then some (resGrow l line vs n) else none
set_option maxHeartbeats 4000000 in
set_option maxRecDepth 100000 in
theorem spec_GrowsFrom.calls (k : Nat) (A0 : Option Addr) (c0 : Nat) (l0 : List S55) (a1_0 : Int) (A1_1 : Option Addr) (c1_1 : Nat) (l1_1 : List Int) (a2 : Int) (r1 : Int) (r2 : Int) (r3 : Bool) (w : World) (hr0 : Kd.C k55 w A0 l0.length l0) (hc0 : l0.length ≤ c0) (hr1_1 : Kd.C (Kd.int .i64) w A1_1 l1_1.length l1_1) (hc1_1 : l1_1.length ≤ c1_1) (h : spec_GrowsFrom.f k l0 a1_0 l1_1 a2 = some (r1, r2, r3)) :
    Calls Try.prog 35 #[.slice A0 l0.length c0, .agg #[.int .i64 a1_0, .slice A1_1 l1_1.length c1_1], .int .i64 a2] w fun e w' => e = .returned (.tuple #[.int .i64 r1, .int .i64 r2, .bool r3]) ∧ Below w.heap.size w w' := by
  unfold spec_GrowsFrom.f at h
  by_cases hsm : l0.length ≤ 1048576 ∧ l1_1.length ≤ 1048576
  case neg => rw [if_neg hsm] at h; simp at h
  rw [if_pos hsm] at h
  replace h := Option.some.inj h
  have H1 := Aside0.mk hr0
  have H2 := Aside0.mk hr1_1
  have HC1 := Aside0.mk hc0
  have HC2 := Aside0.mk hc1_1
  unfold resGrow at h
  have hu := Try.underlying31
  have hu70 := Try.underlying70
  obtain ⟨K, hK⟩ := ctState l0 a1_0 l1_1 (by simp only [maxLen]; omega) (by simp only [maxLen]; omega)
  have HK : Aside0 (spec_ctState.f K l0 a1_0 l1_1 = some (stOk l0 a1_0 l1_1)) := ⟨hK K (Nat.le_refl _)⟩
  clear hr0 hr1_1 hc0 hc1_1 hK
  have HN : Aside0 (spec_ctSteps.f a2 = some (decide (0 ≤ a2 ∧ a2 ≤ 2000))) := ⟨by unfold spec_ctSteps.f; rw [in_f]; rfl⟩
  by_cases hok : StOk l0 a1_0 l1_1
  · have HK2 : Aside0 (spec_ctState.f K l0 a1_0 l1_1 = some true) := ⟨by rw [HK.out]; exact congrArg some (decide_eq_true hok)⟩
    clear HK
    by_cases hn : 0 ≤ a2 ∧ a2 ≤ 2000
    · have HN2 : Aside0 (spec_ctSteps.f a2 = some true) := ⟨by rw [HN.out]; exact congrArg some (decide_eq_true hn)⟩
      rw [if_pos ⟨hok, hn.1, hn.2⟩] at h
      clear HN
      have HM : Aside0 (spec_ctMake.f 0 l0 a1_0 l1_1 a2 = some (makeL l0 a2.toNat 0 a1_0 l1_1 (-1))) := ⟨if_pos ⟨hsm.1, hsm.2, hok, hn.1, hn.2⟩⟩
      have hne := makeL_ne (l := l0) a2.toNat 0 a1_0 l1_1 (-1)
      have hle := makeL_len (l := l0) a2.toNat 0 a1_0 l1_1 (-1)
      have hso := makeL_ok (l := l0) a2.toNat 0 a1_0 l1_1 (-1) hok
      obtain ⟨⟨S1, Z1, bf⟩, hM⟩ : ∃ t, t = makeL l0 a2.toNat 0 a1_0 l1_1 (-1) := ⟨_, rfl⟩
      rw [← hM] at HM h hne hle hso
      simp only at hne hle hso
      obtain ⟨m, hSm⟩ : ∃ m, S1.length = m + 1 := ⟨S1.length - 1, by have := List.length_pos_iff.2 hne; omega⟩
      have hm20 : m ≤ 2000 := by omega
      have hwm : wrap64 (m : Int) = m := by unfold wrap64; omega
      have hm1 : (m : Int) < (m : Int) + 1 := by omega
      have HSO := Aside0.mk hso
      have HZL := Aside0.mk hle.2
      have HNE := Aside0.mk hne
      have H := Aside0.mk h
      clear hM hso hne hle h hok hn
      go_enter Try.func35, Try.ntmps35
      go_wp2_with (first
        | ((with_reducible refine gate_dst (N := 4) rfl ?_); refine box_event ?hg (N := 4) ?hd (cs := #[.int .i64 a1_0, .slice A1_1 l1_1.length c1_1]) (t := 31) ?hr ?_; (case hd => rfl); (case hg => rfl); (case hr => first | (go_simp; done) | (go_simp; rfl)); intro g3 hg w3 hbox hb; have B3 := Aside0.mk hbox; have HB := Aside0.mk hb; have L3 : Aside0 (w.heap.size ≤ g3) := ⟨(by rw [hg]; exact Nat.le_refl _)⟩; clear hg hbox hb; have z0 := (blk_cell B3.out 0).trans rfl; have z1 := (blk_cell B3.out 1).trans rfl)
        | fail)
      refine (spec_ctState.calls K _ _ l0 a1_0 _ _ l1_1 true _ (Kd.C_below H1.out HB.out) HC1.out (Kd.C_below H2.out HB.out) HC2.out HK2.out).mono ?_
      rintro e w5 ⟨rfl, hb⟩
      replace HB := Aside0.mk (below_step HB.out hb)
      replace B3 := Aside0.mk (blk_below B3.out hb)
      clear z0 z1
      clear hb
      go_wp2_with fail
      refine (spec_ctSteps.calls a2 true _ HN2.out).mono ?_
      rintro e w5 ⟨rfl, ⟨nd, rfl⟩⟩
      replace HB := Aside0.mk (pw_below_drewN HB.out nd)
      replace B3 := Aside0.mk (blk_drewN B3.out nd)
      generalize World.drewN _ nd = w5 at HB B3 ⊢
      clear HN2
      have z0 := (blk_cell B3.out 0).trans rfl
      have z1 := (blk_cell B3.out 1).trans rfl
      go_wp2_with fail
      refine (spec_ctMake.calls 0 _ _ l0 a1_0 _ _ l1_1 a2 S1 Z1 bf _ (Kd.C_below H1.out HB.out) HC1.out (Kd.C_below H2.out HB.out) HC2.out HM.out).mono ?_
      rintro e w6 ⟨g, rfl, gs, cs, gz, cz, hR⟩
      have RN := Aside0.mk hR
      have HB6 := Aside0.mk (below_step HB.out hR.be)
      have hh := H.out
      obtain ⟨⟨q1, q2⟩, hq⟩ : ∃ q, q = findK l0 S1 Z1 true S1.length 0 := ⟨_, rfl⟩
      rw [← hq] at hh
      have HQ := Aside0.mk hq
      have HH := Aside0.mk hh
      clear hR hh hq H z0 z1 B3
      go_wp2_with fail
      refine (ctFind_own A0 c0 l0 g cs cz l1_1.length ⟨gs, 0, none⟩ ⟨gz, 0, none⟩ S1 Z1 bf true _ RN.out.box (Kd.R_reads' RN.out.st).2.2 (Kd.R_reads' RN.out.ze).2.2 (Kd.C_below H1.out HB6.out) HC1.out HSO.out HZL.out (by omega) q1 q2 HQ.out.symm).mono ?_
      rintro e w7 ⟨rfl, hb⟩
      replace HB6 := Aside0.mk (below_step HB6.out hb)
      clear hb RN
      by_cases hq0 : q2 < 0
      · have dq : decide (q2 < 0) = true := decide_eq_true hq0
        have hh := HH.out
        unfold conv at hh
        rw [if_pos hq0] at hh
        simp only [Prod.mk.injEq] at hh
        obtain ⟨rfl, rfl, rfl⟩ := hh
        go_wp2
        go_ret3
        exact ⟨rfl, HB6.out⟩
      · have dq : decide (q2 < 0) = false := decide_eq_false hq0
        have hh := HH.out
        unfold conv at hh
        rw [if_neg hq0] at hh
        simp only [Prod.mk.injEq] at hh
        obtain ⟨rfl, rfl, rfl⟩ := hh
        go_wp2
        go_ret3
        exact ⟨rfl, HB6.out⟩
    · have HN2 : Aside0 (spec_ctSteps.f a2 = some false) := ⟨by rw [HN.out]; exact congrArg some (decide_eq_false hn)⟩
      rw [if_neg (fun h_ => hn h_.2)] at h
      clear HN
      go_enter Try.func35, Try.ntmps35
      go_wp2_with (first
        | ((with_reducible refine gate_dst (N := 4) rfl ?_); refine box_event ?hg (N := 4) ?hd (cs := #[.int .i64 a1_0, .slice A1_1 l1_1.length c1_1]) (t := 31) ?hr ?_; (case hd => rfl); (case hg => rfl); (case hr => first | (go_simp; done) | (go_simp; rfl)); intro g3 hg w3 hbox hb; have B3 := Aside0.mk hbox; have HB := Aside0.mk hb; have L3 : Aside0 (w.heap.size ≤ g3) := ⟨(by rw [hg]; exact Nat.le_refl _)⟩; clear hg hbox hb; have z0 := (blk_cell B3.out 0).trans rfl; have z1 := (blk_cell B3.out 1).trans rfl)
        | fail)
      refine (spec_ctState.calls K _ _ l0 a1_0 _ _ l1_1 true _ (Kd.C_below H1.out HB.out) HC1.out (Kd.C_below H2.out HB.out) HC2.out HK2.out).mono ?_
      rintro e w5 ⟨rfl, hb⟩
      replace HB := Aside0.mk (below_step HB.out hb)
      replace B3 := Aside0.mk (blk_below B3.out hb)
      clear z0 z1
      clear hb
      go_wp2_with fail
      refine (spec_ctSteps.calls a2 false _ HN2.out).mono ?_
      rintro e w5 ⟨rfl, ⟨nd, rfl⟩⟩
      replace HB := Aside0.mk (pw_below_drewN HB.out nd)
      replace B3 := Aside0.mk (blk_drewN B3.out nd)
      generalize World.drewN _ nd = w5 at HB B3 ⊢
      clear HN2
      simp only [Prod.mk.injEq] at h
      obtain ⟨rfl, rfl, rfl⟩ := h
      go_wp2
      go_ret3
      exact ⟨rfl, HB.out⟩
  · rw [if_neg (fun h_ => hok h_.1)] at h
    have HK2 : Aside0 (spec_ctState.f K l0 a1_0 l1_1 = some false) := ⟨by rw [HK.out]; exact congrArg some (decide_eq_false hok)⟩
    clear HK
    go_enter Try.func35, Try.ntmps35
    go_wp2_with (first
      | ((with_reducible refine gate_dst (N := 4) rfl ?_); refine box_event ?hg (N := 4) ?hd (cs := #[.int .i64 a1_0, .slice A1_1 l1_1.length c1_1]) (t := 31) ?hr ?_; (case hd => rfl); (case hg => rfl); (case hr => first | (go_simp; done) | (go_simp; rfl)); intro g3 hg w3 hbox hb; have B3 := Aside0.mk hbox; have HB := Aside0.mk hb; have L3 : Aside0 (w.heap.size ≤ g3) := ⟨(by rw [hg]; exact Nat.le_refl _)⟩; clear hg hbox hb; have z0 := (blk_cell B3.out 0).trans rfl; have z1 := (blk_cell B3.out 1).trans rfl)
      | fail)
    refine (spec_ctState.calls K _ _ l0 a1_0 _ _ l1_1 false _ (Kd.C_below H1.out HB.out) HC1.out (Kd.C_below H2.out HB.out) HC2.out HK2.out).mono ?_
    rintro e w5 ⟨rfl, hb⟩
    replace HB := Aside0.mk (below_step HB.out hb)
    replace B3 := Aside0.mk (blk_below B3.out hb)
    clear z0 z1
    clear hb
    simp only [Prod.mk.injEq] at h
    obtain ⟨rfl, rfl, rfl⟩ := h
    go_wp2
    go_ret3
    exact ⟨rfl, HB.out⟩
end Go.Proofs.Ytbcphkblieeemaa.P
