/- The walk of spec.RunSteps (printed by gen_run.py). -/
import Derived.Test.YtbcphkblieeemaaYFnExactRunStepsPx15
import Derived.Test.YtbcphkblieeemaaYFnExactRunStepsPx33
import Derived.Test.YtbcphkblieeemaaYFnExactRunStepsPx34
import Derived.Test.YtbcphkblieeemaaYFnExactRunStepsVRun
namespace Go.Proofs.Ytbcphkblieeemaa.P
open Go.RowKit Go.Proofs.YtbcphkblieeemaaW.PrintWords Go.Proofs.YtbcphkblieeemaaW.PrintLast Go.Proofs.YtbcphkblieeemaaW.PrintMore Go.Proofs.Ytbcphkblieeemaa.Own Go.Proofs.Ytbcphkblieeemaa.A
set_option linter.unusedVariables false
set_option linter.unusedSimpArgs false
/-! ### spec_RunSteps: function 24 -/
def spec_RunSteps.f (k : Nat) (l : List S55) (line : Int) (vs : List Int) (n : Int) : Option (Int × List Int × Int × Bool) := if l.length ≤ 1048576 ∧ vs.length ≤ 1048576 then some (if StOk l line vs ∧ 0 ≤ n ∧ n ≤ 2000 then (if (makeL l n.toNat 0 line vs (-1)).2.2 = true then (0, [], 0, false) else ((lastS (makeL l n.toNat 0 line vs (-1)).1).f0, (lastS (makeL l n.toNat 0 line vs (-1)).1).f1, ((makeL l n.toNat 0 line vs (-1)).1.length : Int) - 1, true)) else (0, [], 0, false)) else none
set_option maxHeartbeats 4000000 in
set_option maxRecDepth 100000 in
theorem spec_RunSteps.calls (k : Nat) (A0 : Option Addr) (c0 : Nat) (l0 : List S55) (a1_0 : Int) (A1_1 : Option Addr) (c1_1 : Nat) (l1_1 : List Int) (a2 : Int) (r1 : Int) (r2 : List Int) (r3 : Int) (r4 : Bool) (w : World) (hr0 : Kd.C k55 w A0 l0.length l0) (hc0 : l0.length ≤ c0) (hr1_1 : Kd.C (Kd.int .i64) w A1_1 l1_1.length l1_1) (hc1_1 : l1_1.length ≤ c1_1) (h : spec_RunSteps.f k l0 a1_0 l1_1 a2 = some (r1, r2, r3, r4)) :
    Calls Try.prog 24 #[.slice A0 l0.length c0, .agg #[.int .i64 a1_0, .slice A1_1 l1_1.length c1_1], .int .i64 a2] w fun e w' => ∃ v1_ : Value, e = .returned (.tuple #[.agg #[.int .i64 r1, v1_], .int .i64 r3, .bool r4]) ∧ Kd.R (Kd.int .i64) 3 w' w.heap.size (fun _ => True) v1_ r2 ∧ Below w.heap.size w w' := by
  unfold spec_RunSteps.f at h
  by_cases hsm : l0.length ≤ 1048576 ∧ l1_1.length ≤ 1048576
  case neg => rw [if_neg hsm] at h; simp at h
  rw [if_pos hsm] at h
  replace h := Option.some.inj h
  have H1 := Aside0.mk hr0
  have H2 := Aside0.mk hr1_1
  have HC1 := Aside0.mk hc0
  have HC2 := Aside0.mk hc1_1
  have hu := Try.underlying31
  have hu70 := Try.underlying70
  obtain ⟨K, hK⟩ := ctState l0 a1_0 l1_1 (by simp only [maxLen]; omega) (by simp only [maxLen]; omega)
  have HK : Aside0 (spec_ctState.f K l0 a1_0 l1_1 = some (stOk l0 a1_0 l1_1)) := ⟨hK K (Nat.le_refl _)⟩
  clear hr0 hr1_1 hc0 hc1_1 hK
  have HN : Aside0 (spec_ctSteps.f a2 = some (decide (0 ≤ a2 ∧ a2 ≤ 2000))) := ⟨by unfold spec_ctSteps.f; rw [in_f]; rfl⟩
  by_cases hok : StOk l0 a1_0 l1_1
  · have HK2 : Aside0 (spec_ctState.f K l0 a1_0 l1_1 = some true) := ⟨by rw [HK.out]; exact congrArg some (decide_eq_true hok)⟩
    clear HK
    by_cases hn : 0 ≤ a2 ∧ a2 ≤ 2000
    · have HN2 : Aside0 (spec_ctSteps.f a2 = some true) := ⟨by rw [HN.out]; exact congrArg some (decide_eq_true hn)⟩
      rw [if_pos ⟨hok, hn.1, hn.2⟩] at h
      clear HN
      have HM : Aside0 (spec_ctMake.f 0 l0 a1_0 l1_1 a2 = some (makeL l0 a2.toNat 0 a1_0 l1_1 (-1))) := ⟨if_pos ⟨hsm.1, hsm.2, hok, hn.1, hn.2⟩⟩
      have hne := makeL_ne (l := l0) a2.toNat 0 a1_0 l1_1 (-1)
      have hle := makeL_len (l := l0) a2.toNat 0 a1_0 l1_1 (-1)
      have hso := makeL_ok (l := l0) a2.toNat 0 a1_0 l1_1 (-1) hok
      obtain ⟨⟨S1, Z1, bf⟩, hM⟩ : ∃ t, t = makeL l0 a2.toNat 0 a1_0 l1_1 (-1) := ⟨_, rfl⟩
      rw [← hM] at HM h hne hle hso
      simp only at hne hle hso
      obtain ⟨m, hSm⟩ : ∃ m, S1.length = m + 1 := ⟨S1.length - 1, by have := List.length_pos_iff.2 hne; omega⟩
      have hm20 : m ≤ 2000 := by omega
      have hwm : wrap64 (m : Int) = m := by unfold wrap64; omega
      have hm1 : (m : Int) < (m : Int) + 1 := by omega
      have HSO := Aside0.mk hso
      have HZL := Aside0.mk hle.2
      have HNE := Aside0.mk hne
      have H := Aside0.mk h
      clear hM hso hne hle h hok hn
      go_enter Try.func24, Try.ntmps24
      go_wp2_with (first
        | ((with_reducible refine gate_dst (N := 4) rfl ?_); refine box_event ?hg (N := 4) ?hd (cs := #[.int .i64 a1_0, .slice A1_1 l1_1.length c1_1]) (t := 31) ?hr ?_; (case hd => rfl); (case hg => rfl); (case hr => first | (go_simp; done) | (go_simp; rfl)); intro g3 hg w3 hbox hb; have B3 := Aside0.mk hbox; have HB := Aside0.mk hb; have L3 : Aside0 (w.heap.size ≤ g3) := ⟨(by rw [hg]; exact Nat.le_refl _)⟩; clear hg hbox hb)
        | ((with_reducible refine gate_dst (N := 6) rfl ?_); refine box_event ?hg (N := 6) ?hd (cs := #[.int .i64 0, .slice none 0 0]) (t := 31) ?hr ?_; (case hd => rfl); (case hg => rfl); (case hr => first | (go_simp; done) | (go_simp; rfl)); intro g4 hg w4 hbox hb; have N34 : g3 ≠ g4 := (by rw [hg]; exact Nat.ne_of_lt (blk_lt B3.out)); have L4 : Aside0 (w.heap.size ≤ g4) := ⟨(by rw [hg]; exact HB.out.size)⟩; have B4 := Aside0.mk hbox; replace B3 := Aside0.mk (blk_below B3.out hb); replace HB := Aside0.mk (below_step HB.out hb); clear hg hbox hb; have z0 := (blk_cell B3.out 0).trans rfl; have z1 := (blk_cell B3.out 1).trans rfl)
        | fail)
      refine (spec_ctState.calls K _ _ l0 a1_0 _ _ l1_1 true _ (Kd.C_below H1.out HB.out) HC1.out (Kd.C_below H2.out HB.out) HC2.out HK2.out).mono ?_
      rintro e w5 ⟨rfl, hb⟩
      replace HB := Aside0.mk (below_step HB.out hb)
      replace B3 := Aside0.mk (blk_below B3.out hb)
      clear z0 z1
      replace B4 := Aside0.mk (blk_below B4.out hb)
      clear hb
      go_wp2_with fail
      refine (spec_ctSteps.calls a2 true _ HN2.out).mono ?_
      rintro e w5 ⟨rfl, ⟨nd, rfl⟩⟩
      replace HB := Aside0.mk (pw_below_drewN HB.out nd)
      replace B3 := Aside0.mk (blk_drewN B3.out nd)
      replace B4 := Aside0.mk (blk_drewN B4.out nd)
      generalize World.drewN _ nd = w5 at HB B3 B4 ⊢
      clear HN2
      have q0 := (blk_cell B4.out 0).trans rfl
      have q1 := (blk_cell B4.out 1).trans rfl
      have fq0 := blk_frozen B4.out 0
      have fq1 := blk_frozen B4.out 1
      have z0 := (blk_cell B3.out 0).trans rfl
      have z1 := (blk_cell B3.out 1).trans rfl
      go_wp2_with fail
      refine (spec_ctMake.calls 0 _ _ l0 a1_0 _ _ l1_1 a2 S1 Z1 bf _ (Kd.C_below H1.out HB.out) HC1.out (Kd.C_below H2.out HB.out) HC2.out HM.out).mono ?_
      rintro e w6 ⟨g, rfl, gs, cs, gz, cz, hR⟩
      have RN := Aside0.mk hR
      have HB6 := Aside0.mk (below_step HB.out hR.be)
      skip
      have B45 := blk_lt B4.out
      have B46 := Aside0.mk (blk_below (g := g4) B4.out (hR.be))
      clear q0 q1 fq0 fq1 z0 z1 hR B3 B4
      have q0 := (blk_cell B46.out 0).trans rfl
      have q1 := (blk_cell B46.out 1).trans rfl
      have fq0 := blk_frozen B46.out 0
      have fq1 := blk_frozen B46.out 1
      have s2 := (blk_cell RN.out.box 2).trans rfl
      cases bf with
      | true =>
        have hh := H.out
        rw [if_pos rfl] at hh
        simp only [Prod.mk.injEq] at hh
        obtain ⟨rfl, rfl, rfl, rfl⟩ := hh
        go_wp2
        refine bodyPost_ret (results_ctt rfl _ _ g4 31 #[.int .i64 0, .slice none 0 0] (0, 0) _ rfl (blk_put (cs := #[.int .i64 0, .slice none 0 0]) (blk_put (cs := #[.int .i64 0, .slice none 0 0]) B46.out 0 _ rfl) 1 _ rfl) Try.underlying31 rfl (by kernel_rfl)) rfl ?_
        exact ⟨_, rfl, Kd.R_nil _ _ _ _ _, below_set (below_set HB6.out L4.out) L4.out⟩
      | false =>
        have hh := H.out
        clear H
        rw [if_neg (by simp)] at hh
        obtain ⟨ad, A1, c1, ea, x0, x1, xl, xC⟩ := at_T31 (Kd.R_reads' RN.out.st).2.2 (m : Int) (by omega) (by omega)
        have e1 : rd_T31 S1 (m : Int) = lastS S1 := by unfold lastS; rw [hSm]; congr 1; omega
        obtain ⟨⟨ln, us⟩, hL⟩ : ∃ s, s = lastS S1 := ⟨_, rfl⟩
        have HL := Aside0.mk hL
        rw [e1, ← hL] at x0 x1 xl xC
        rw [Int.toNat_natCast] at x0 x1
        have SO := Aside0.mk (HSO.out _ (lastS_mem HNE.out)).1
        rw [← hL] at SO
        simp only at x0 x1 xl xC SO
        replace ea : (⟨gs, 0, none⟩ : Addr) = ad := Option.some.inj ea
        have XC := Aside0.mk xC
        have XL := Aside0.mk xl
        rw [← HL.out, show ((S1.length : Int) - 1) = (m : Int) by omega] at hh
        simp only [Prod.mk.injEq] at hh
        obtain ⟨rfl, rfl, rfl, rfl⟩ := hh
        have hrow : Kd.R (Kd.int .i64) 3 w6 w.heap.size (fun _ => True) (.slice A1 us.length c1) us := by
          obtain ⟨c_, hcl, hM, hcc⟩ := Kd.R_get RN.out.st z31 (m : Int) (by omega) (by omega)
          rw [show S1.getD ((m : Int)).toNat z31 = ⟨ln, us⟩ from e1.trans hL.symm] at hM
          obtain ⟨v1, ec, hv⟩ := k31_openM hM
          have h1 := hcc 1 v1 (by rw [ec]; rfl)
          rw [show ((m : Int)).toNat * (k31).sz + 1 = m * 2 + 1 from rfl] at h1
          have h2 : w6.cell? ((⟨gs, 0, none⟩ : Addr).add (m * 2 + 1)) = some (.slice A1 us.length c1) := by
            rw [add_field _ _ 1 (by omega), ea]; exact x1
          rw [h2] at h1
          rw [Option.some.inj h1]
          exact Kd.R_mono (Kd.R_lower hv HB.out.size) (fun _ _ => trivial)
        have HRW := Aside0.mk hrow
        have bad : (ad.add (m * 2)).block = gs := by rw [← ea, add_plain]
        have n4s : gs ≠ g4 := Nat.ne_of_gt (Nat.lt_of_lt_of_le B45 (Kd.R_base RN.out.st gs rfl))
        have n4g : g ≠ g4 := blk_ne RN.out.box B46.out (by decide)
        have N4S := Aside0.mk (And.intro bad (And.intro n4s n4g))
        clear bad n4s n4g
        have s0 : w6.cell? ⟨g, 0, none⟩ = some (.slice (some ad) S1.length cs) := by rw [← ea]; exact (blk_cell RN.out.box 0).trans rfl
        clear ea e1 hL xC xl hrow
        go_wp2
        refine start_ (n := 21) (S := fun w' => w'.cell? ⟨g, 0, none⟩ = some (.slice (some ad) S1.length cs) ∧ w'.cell? (ad.add (m * 2)) = some (.int .i64 ln) ∧ w'.cell? ⟨(ad.add (m * 2)).block, (ad.add (m * 2)).off + 1, none⟩ = some (.slice A1 us.length c1)) (ds := []) #[false, false, false, false, false, false, false, false, false, false, false, false, false, false, false, false, false, false, false, false, false] (by kernel_rfl) rfl rfl ⟨s0, x0, x1⟩ (fun hHeld => ?_)
        refine Own.anew_ (wN := w6) (by repeat (first | with_reducible exact Below.refl _ _ | with_reducible apply below_alloc | with_reducible apply pw_below_drewN | with_reducible apply below_drew1)) hHeld (fun wz hzb hHeld => ?_)
        replace HB6 := Aside0.mk (below_step HB6.out hzb)
        replace HRW := Aside0.mk (Kd.R_below HRW.out hzb)
        replace B46 := Aside0.mk (blk_below B46.out hzb)
        clear hzb q0 q1 fq0 fq1 s0 x0 x1 s2
        refine pure_ (i := 0) (N := some 29) (v := ?_) (a' := ?_) #[true, false, false, false, false, false, false, false, false, false, false, false, false, false, false, false, false, false, false, false, false] rfl rfl (by kernel_rfl) (fun _ _ _ h => h) (Or.inl ⟨by rfl, ?_⟩) ?_ ?_
        rotate_left
        · intro w'
          go_simp
          with_reducible rfl
        rotate_left
        · simp only [Act.put, List.setIfInBounds_toArray, List.set_cons_zero, List.set_cons_succ, i64_w, i32_w]
          rfl
        refine pure_ (i := 1) (N := some 30) (v := ?_) (a' := ?_) #[true, true, false, false, false, false, false, false, false, false, false, false, false, false, false, false, false, false, false, false, false] rfl rfl (by kernel_rfl) (fun _ _ _ h => h) (Or.inl ⟨by rfl, ?_⟩) ?_ ?_
        rotate_left
        · intro w'
          go_simp
          with_reducible rfl
        rotate_left
        · simp only [Act.put, List.setIfInBounds_toArray, List.set_cons_zero, List.set_cons_succ, i64_w, i32_w]
          rfl
        refine pure_ (i := 2) (N := some 31) (v := ?_) (a' := ?_) #[true, true, true, false, false, false, false, false, false, false, false, false, false, false, false, false, false, false, false, false, false] rfl rfl (by kernel_rfl) (fun _ _ _ h => h) (Or.inl ⟨by rfl, ?_⟩) ?_ ?_
        rotate_left
        · intro w'
          go_simp
          with_reducible rfl
        rotate_left
        · simp only [Act.put, List.setIfInBounds_toArray, List.set_cons_zero, List.set_cons_succ, i64_w, i32_w]
          rfl
        refine pure_ (i := 4) (N := some 33) (v := ?_) (a' := ?_) #[true, true, true, false, true, false, false, false, false, false, false, false, false, false, false, false, false, false, false, false, false] rfl rfl (by kernel_rfl) (fun _ _ _ h => h) (Or.inl ⟨by rfl, ?_⟩) ?_ ?_
        rotate_left
        · intro w'
          go_simp
          with_reducible rfl
        rotate_left
        · simp only [Act.put, List.setIfInBounds_toArray, List.set_cons_zero, List.set_cons_succ, i64_w, i32_w]
          rfl
        refine pure_ (i := 5) (N := some 34) (v := ?_) (a' := ?_) #[true, true, true, false, true, true, false, false, false, false, false, false, false, false, false, false, false, false, false, false, false] rfl rfl (by kernel_rfl) (fun _ _ _ h => h) (Or.inl ⟨by rfl, ?_⟩) ?_ ?_
        rotate_left
        · intro w'
          go_simp
          with_reducible rfl
        rotate_left
        · simp only [Act.put, List.setIfInBounds_toArray, List.set_cons_zero, List.set_cons_succ, i64_w, i32_w]
          rfl
        refine pure_ (i := 6) (N := some 35) (v := ?_) (a' := ?_) #[true, true, true, false, true, true, true, false, false, false, false, false, false, false, false, false, false, false, false, false, false] rfl rfl (by kernel_rfl) (fun _ _ _ h => h) (Or.inl ⟨by rfl, ?_⟩) ?_ ?_
        rotate_left
        · intro w'
          go_simp
          with_reducible rfl
        rotate_left
        · simp only [Act.put, List.setIfInBounds_toArray, List.set_cons_zero, List.set_cons_succ, i64_w, i32_w]
          rfl
        refine pure_ (i := 12) (N := some 41) (v := ?_) (a' := ?_) #[true, true, true, false, true, true, true, false, false, false, false, false, true, false, false, false, false, false, false, false, false] rfl rfl (by kernel_rfl) (fun _ _ _ h => h) (Or.inl ⟨by rfl, ?_⟩) ?_ ?_
        rotate_left
        · intro w'
          go_simp
          with_reducible rfl
        rotate_left
        · simp only [Act.put, List.setIfInBounds_toArray, List.set_cons_zero, List.set_cons_succ, i64_w, i32_w]
          rfl
        refine pure_ (i := 13) (N := some 42) (v := ?_) (a' := ?_) #[true, true, true, false, true, true, true, false, false, false, false, false, true, true, false, false, false, false, false, false, false] rfl rfl (by kernel_rfl) (fun _ _ _ h => h) (Or.inl ⟨by rfl, ?_⟩) ?_ ?_
        rotate_left
        · intro w'
          go_simp
          with_reducible rfl
        rotate_left
        · simp only [Act.put, List.setIfInBounds_toArray, List.set_cons_zero, List.set_cons_succ, i64_w, i32_w]
          rfl
        refine pure_ (i := 14) (N := some 43) (v := ?_) (a' := ?_) #[true, true, true, false, true, true, true, false, false, false, false, false, true, true, true, false, false, false, false, false, false] rfl rfl (by kernel_rfl) (fun _ _ _ h => h) (Or.inl ⟨by rfl, ?_⟩) ?_ ?_
        rotate_left
        · intro w'
          go_simp
          with_reducible rfl
        rotate_left
        · simp only [Act.put, List.setIfInBounds_toArray, List.set_cons_zero, List.set_cons_succ, i64_w, i32_w]
          rfl
        refine take_ (i := 3) (N := some 32) (v := ?_) (a' := ?_) #[true, true, true, true, true, true, true, false, false, false, false, false, true, true, true, false, false, false, false, false, false] rfl rfl (by kernel_rfl) (fun _ _ _ h => h) (Or.inl ⟨by rfl, ?_⟩) hHeld ?_ ?_
        rotate_left
        · rintro w' ⟨s0, s1, s2⟩
          go_simp
          with_reducible rfl
        rotate_left
        · simp only [Act.put, List.setIfInBounds_toArray, List.set_cons_zero, List.set_cons_succ, i64_w, i32_w]
          rfl
        refine take_ (i := 7) (N := some 36) (v := ?_) (a' := ?_) #[true, true, true, true, true, true, true, true, false, false, false, false, true, true, true, false, false, false, false, false, false] rfl rfl (by kernel_rfl) (fun _ _ _ h => h) (Or.inl ⟨by rfl, ?_⟩) hHeld ?_ ?_
        rotate_left
        · rintro w' ⟨s0, s1, s2⟩
          go_simp
          with_reducible rfl
        rotate_left
        · simp only [Act.put, List.setIfInBounds_toArray, List.set_cons_zero, List.set_cons_succ, i64_w, i32_w]
          rfl
        refine pure_ (i := 8) (N := some 37) (v := ?_) (a' := ?_) #[true, true, true, true, true, true, true, true, true, false, false, false, true, true, true, false, false, false, false, false, false] rfl rfl (by kernel_rfl) (fun _ _ _ h => h) (Or.inl ⟨by rfl, ?_⟩) ?_ ?_
        rotate_left
        · intro w'
          go_simp
          with_reducible rfl
        rotate_left
        · simp only [Act.put, List.setIfInBounds_toArray, List.set_cons_zero, List.set_cons_succ, i64_w, i32_w]
          rfl
        refine pure_ (i := 9) (N := some 38) (v := ?_) (a' := ?_) #[true, true, true, true, true, true, true, true, true, true, false, false, true, true, true, false, false, false, false, false, false] rfl rfl (by kernel_rfl) (fun _ _ _ h => h) (Or.inl ⟨by rfl, ?_⟩) ?_ ?_
        rotate_left
        · intro w'
          go_simp
          with_reducible rfl
        rotate_left
        · simp only [Act.put, List.setIfInBounds_toArray, List.set_cons_zero, List.set_cons_succ, i64_w, i32_w]
          rfl
        refine pure_ (i := 10) (N := some 39) (v := ?_) (a' := ?_) #[true, true, true, true, true, true, true, true, true, true, true, false, true, true, true, false, false, false, false, false, false] rfl rfl (by kernel_rfl) (fun _ _ _ h => h) (Or.inl ⟨by rfl, ?_⟩) ?_ ?_
        rotate_left
        · intro w'
          go_simp
          with_reducible rfl
        rotate_left
        · simp only [Act.put, List.setIfInBounds_toArray, List.set_cons_zero, List.set_cons_succ, i64_w, i32_w]
          rfl
        refine take_ (i := 11) (N := some 40) (v := ?_) (a' := ?_) #[true, true, true, true, true, true, true, true, true, true, true, true, true, true, true, false, false, false, false, false, false] rfl rfl (by kernel_rfl) (fun _ _ _ h => h) (Or.inl ⟨by rfl, ?_⟩) hHeld ?_ ?_
        rotate_left
        · rintro w' ⟨s0, s1, s2⟩
          go_simp
          with_reducible rfl
        rotate_left
        · simp only [Act.put, List.setIfInBounds_toArray, List.set_cons_zero, List.set_cons_succ, i64_w, i32_w]
          rfl
        refine take_ (i := 15) (N := some 44) (v := ?_) (a' := ?_) #[true, true, true, true, true, true, true, true, true, true, true, true, true, true, true, true, false, false, false, false, false] rfl rfl (by kernel_rfl) (fun _ _ _ h => h) (Or.inl ⟨by rfl, ?_⟩) hHeld ?_ ?_
        rotate_left
        · rintro w' ⟨s0, s1, s2⟩
          go_simp
          with_reducible rfl
        rotate_left
        · simp only [Act.put, List.setIfInBounds_toArray, List.set_cons_zero, List.set_cons_succ, i64_w, i32_w]
          rfl
        refine pure_ (i := 16) (N := some 45) (v := ?_) (a' := ?_) #[true, true, true, true, true, true, true, true, true, true, true, true, true, true, true, true, true, false, false, false, false] rfl rfl (by kernel_rfl) (fun _ _ _ h => h) (Or.inl ⟨by rfl, ?_⟩) ?_ ?_
        rotate_left
        · intro w'
          go_simp
          with_reducible rfl
        rotate_left
        · simp only [Act.put, List.setIfInBounds_toArray, List.set_cons_zero, List.set_cons_succ, i64_w, i32_w]
          rfl
        refine pure_ (i := 17) (N := some 46) (v := ?_) (a' := ?_) #[true, true, true, true, true, true, true, true, true, true, true, true, true, true, true, true, true, true, false, false, false] rfl rfl (by kernel_rfl) (fun _ _ _ h => h) (Or.inl ⟨by rfl, ?_⟩) ?_ ?_
        rotate_left
        · intro w'
          go_simp
          with_reducible rfl
        rotate_left
        · simp only [Act.put, List.setIfInBounds_toArray, List.set_cons_zero, List.set_cons_succ, i64_w, i32_w]
          rfl
        refine one_ (i := 18) (N := none) #[true, true, true, true, true, true, true, true, true, true, true, true, true, true, true, true, true, true, true, false, false] rfl rfl (by kernel_rfl) (by decide) (fun K hK => ?_)
        have q0 := (blk_cell B46.out 0).trans rfl
        have q1 := (blk_cell B46.out 1).trans rfl
        have fq0 := blk_frozen B46.out 0
        have fq1 := blk_frozen B46.out 1
        refine skip_ (w1 := (wz.setCell ⟨g4, 0, none⟩ (.int .i64 ln)).setCell ⟨g4, 1, none⟩ (.slice A1 us.length c1)) (by rfl) rfl ?_ ?_
        · first | (go_simp; done) | (go_simp; rfl)
        obtain ⟨nb, n4s, n4g⟩ := N4S.out
        refine hK.out _ _ ⟨(cell_far (p := ⟨g4, _, none⟩) n4g _).trans ((cell_far (p := ⟨g4, _, none⟩) n4g _).trans hHeld.1), (cell_far (p := ⟨g4, _, none⟩) (by rw [nb]; exact n4s) _).trans ((cell_far (p := ⟨g4, _, none⟩) (by rw [nb]; exact n4s) _).trans hHeld.2.1), (cell_far (p := ⟨g4, _, none⟩) (a := ⟨(ad.add (m * 2)).block, (ad.add (m * 2)).off + 1, none⟩) (show (ad.add (m * 2)).block ≠ g4 by rw [nb]; exact n4s) _).trans ((cell_far (p := ⟨g4, _, none⟩) (a := ⟨(ad.add (m * 2)).block, (ad.add (m * 2)).off + 1, none⟩) (show (ad.add (m * 2)).block ≠ g4 by rw [nb]; exact n4s) _).trans hHeld.2.2)⟩ (fun hHeld => ?_)
        clear hK K hHeld q0 q1 fq0 fq1 nb n4s n4g
        refine pure_ (i := 19) (N := some 7) (v := ?_) (a' := ?_) #[true, true, true, true, true, true, true, true, true, true, true, true, true, true, true, true, true, true, true, true, false] rfl rfl (by kernel_rfl) (fun _ _ _ h => h) (Or.inl ⟨by rfl, ?_⟩) ?_ ?_
        rotate_left
        · intro w'
          go_simp
          with_reducible rfl
        rotate_left
        · simp only [Act.put, List.setIfInBounds_toArray, List.set_cons_zero, List.set_cons_succ, i64_w, i32_w]
          rfl
        refine pure_ (i := 20) (N := some 8) (v := ?_) (a' := ?_) #[true, true, true, true, true, true, true, true, true, true, true, true, true, true, true, true, true, true, true, true, true] rfl rfl (by kernel_rfl) (fun _ _ _ h => h) (Or.inl ⟨by rfl, ?_⟩) ?_ ?_
        rotate_left
        · intro w'
          go_simp
          with_reducible rfl
        rotate_left
        · simp only [Act.put, List.setIfInBounds_toArray, List.set_cons_zero, List.set_cons_succ, i64_w, i32_w]
          rfl
        refine done_ (by kernel_rfl) ?_
        rw [hwm]
        go_wp2
        refine bodyPost_ret (results_ctt rfl _ _ g4 31 #[.int .i64 ln, .slice A1 us.length c1] (0, 0) _ rfl (blk_put (cs := #[.int .i64 ln, .slice none 0 0]) (blk_put (cs := #[.int .i64 0, .slice none 0 0]) B46.out 0 _ rfl) 1 _ rfl) Try.underlying31 rfl (by kernel_rfl)) rfl ?_
        exact ⟨_, rfl, Kd.R_set (Kd.R_set HRW.out B46.out (by decide) 0 _) (blk_put (cs := #[.int .i64 0, .slice none 0 0]) B46.out 0 _ rfl) (by decide) 1 _, below_set (below_set HB6.out L4.out) L4.out⟩
    · have HN2 : Aside0 (spec_ctSteps.f a2 = some false) := ⟨by rw [HN.out]; exact congrArg some (decide_eq_false hn)⟩
      rw [if_neg (fun h_ => hn h_.2)] at h
      clear HN
      go_enter Try.func24, Try.ntmps24
      go_wp2_with (first
        | ((with_reducible refine gate_dst (N := 4) rfl ?_); refine box_event ?hg (N := 4) ?hd (cs := #[.int .i64 a1_0, .slice A1_1 l1_1.length c1_1]) (t := 31) ?hr ?_; (case hd => rfl); (case hg => rfl); (case hr => first | (go_simp; done) | (go_simp; rfl)); intro g3 hg w3 hbox hb; have B3 := Aside0.mk hbox; have HB := Aside0.mk hb; have L3 : Aside0 (w.heap.size ≤ g3) := ⟨(by rw [hg]; exact Nat.le_refl _)⟩; clear hg hbox hb)
        | ((with_reducible refine gate_dst (N := 6) rfl ?_); refine box_event ?hg (N := 6) ?hd (cs := #[.int .i64 0, .slice none 0 0]) (t := 31) ?hr ?_; (case hd => rfl); (case hg => rfl); (case hr => first | (go_simp; done) | (go_simp; rfl)); intro g4 hg w4 hbox hb; have N34 : g3 ≠ g4 := (by rw [hg]; exact Nat.ne_of_lt (blk_lt B3.out)); have L4 : Aside0 (w.heap.size ≤ g4) := ⟨(by rw [hg]; exact HB.out.size)⟩; have B4 := Aside0.mk hbox; replace B3 := Aside0.mk (blk_below B3.out hb); replace HB := Aside0.mk (below_step HB.out hb); clear hg hbox hb; have z0 := (blk_cell B3.out 0).trans rfl; have z1 := (blk_cell B3.out 1).trans rfl)
        | fail)
      refine (spec_ctState.calls K _ _ l0 a1_0 _ _ l1_1 true _ (Kd.C_below H1.out HB.out) HC1.out (Kd.C_below H2.out HB.out) HC2.out HK2.out).mono ?_
      rintro e w5 ⟨rfl, hb⟩
      replace HB := Aside0.mk (below_step HB.out hb)
      replace B3 := Aside0.mk (blk_below B3.out hb)
      clear z0 z1
      replace B4 := Aside0.mk (blk_below B4.out hb)
      clear hb
      go_wp2_with fail
      refine (spec_ctSteps.calls a2 false _ HN2.out).mono ?_
      rintro e w5 ⟨rfl, ⟨nd, rfl⟩⟩
      replace HB := Aside0.mk (pw_below_drewN HB.out nd)
      replace B3 := Aside0.mk (blk_drewN B3.out nd)
      replace B4 := Aside0.mk (blk_drewN B4.out nd)
      generalize World.drewN _ nd = w5 at HB B3 B4 ⊢
      clear HN2
      have q0 := (blk_cell B4.out 0).trans rfl
      have q1 := (blk_cell B4.out 1).trans rfl
      have fq0 := blk_frozen B4.out 0
      have fq1 := blk_frozen B4.out 1
      simp only [Prod.mk.injEq] at h
      obtain ⟨rfl, rfl, rfl, rfl⟩ := h
      go_wp2
      refine bodyPost_ret (results_ctt rfl _ _ g4 31 #[.int .i64 0, .slice none 0 0] (0, 0) _ rfl (blk_put (cs := #[.int .i64 0, .slice none 0 0]) (blk_put (cs := #[.int .i64 0, .slice none 0 0]) B4.out 0 _ rfl) 1 _ rfl) Try.underlying31 rfl (by kernel_rfl)) rfl ?_
      exact ⟨_, rfl, Kd.R_nil _ _ _ _ _, below_set (below_set HB.out L4.out) L4.out⟩
  · rw [if_neg (fun h_ => hok h_.1)] at h
    have HK2 : Aside0 (spec_ctState.f K l0 a1_0 l1_1 = some false) := ⟨by rw [HK.out]; exact congrArg some (decide_eq_false hok)⟩
    clear HK
    go_enter Try.func24, Try.ntmps24
    go_wp2_with (first
      | ((with_reducible refine gate_dst (N := 4) rfl ?_); refine box_event ?hg (N := 4) ?hd (cs := #[.int .i64 a1_0, .slice A1_1 l1_1.length c1_1]) (t := 31) ?hr ?_; (case hd => rfl); (case hg => rfl); (case hr => first | (go_simp; done) | (go_simp; rfl)); intro g3 hg w3 hbox hb; have B3 := Aside0.mk hbox; have HB := Aside0.mk hb; have L3 : Aside0 (w.heap.size ≤ g3) := ⟨(by rw [hg]; exact Nat.le_refl _)⟩; clear hg hbox hb)
      | ((with_reducible refine gate_dst (N := 6) rfl ?_); refine box_event ?hg (N := 6) ?hd (cs := #[.int .i64 0, .slice none 0 0]) (t := 31) ?hr ?_; (case hd => rfl); (case hg => rfl); (case hr => first | (go_simp; done) | (go_simp; rfl)); intro g4 hg w4 hbox hb; have N34 : g3 ≠ g4 := (by rw [hg]; exact Nat.ne_of_lt (blk_lt B3.out)); have L4 : Aside0 (w.heap.size ≤ g4) := ⟨(by rw [hg]; exact HB.out.size)⟩; have B4 := Aside0.mk hbox; replace B3 := Aside0.mk (blk_below B3.out hb); replace HB := Aside0.mk (below_step HB.out hb); clear hg hbox hb; have z0 := (blk_cell B3.out 0).trans rfl; have z1 := (blk_cell B3.out 1).trans rfl)
      | fail)
    refine (spec_ctState.calls K _ _ l0 a1_0 _ _ l1_1 false _ (Kd.C_below H1.out HB.out) HC1.out (Kd.C_below H2.out HB.out) HC2.out HK2.out).mono ?_
    rintro e w5 ⟨rfl, hb⟩
    replace HB := Aside0.mk (below_step HB.out hb)
    replace B3 := Aside0.mk (blk_below B3.out hb)
    clear z0 z1
    replace B4 := Aside0.mk (blk_below B4.out hb)
    clear hb
    have q0 := (blk_cell B4.out 0).trans rfl
    have q1 := (blk_cell B4.out 1).trans rfl
    have fq0 := blk_frozen B4.out 0
    have fq1 := blk_frozen B4.out 1
    simp only [Prod.mk.injEq] at h
    obtain ⟨rfl, rfl, rfl, rfl⟩ := h
    go_wp2
    refine bodyPost_ret (results_ctt rfl _ _ g4 31 #[.int .i64 0, .slice none 0 0] (0, 0) _ rfl (blk_put (cs := #[.int .i64 0, .slice none 0 0]) (blk_put (cs := #[.int .i64 0, .slice none 0 0]) B4.out 0 _ rfl) 1 _ rfl) Try.underlying31 rfl (by kernel_rfl)) rfl ?_
    exact ⟨_, rfl, Kd.R_nil _ _ _ _ _, below_set (below_set HB.out L4.out) L4.out⟩
end Go.Proofs.Ytbcphkblieeemaa.P
