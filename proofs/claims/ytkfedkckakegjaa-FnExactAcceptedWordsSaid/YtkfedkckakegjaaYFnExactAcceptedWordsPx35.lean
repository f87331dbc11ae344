/- The walk of the reference's AcceptedWords: the first 40 accepted words of a length up to n (printed by gen_acc.py). -/
import Derived.Test.YtkfedkckakegjaaYFnExactAcceptedWordsPx13
import Derived.Test.YtkfedkckakegjaaYFnExactAcceptedWordsPx34
import Derived.Test.YtkfedkckakegjaaYFnExactAcceptedWordsPx14
import Derived.Test.YtkfedkckakegjaaYFnExactAcceptedWordsPx15
import Derived.Test.YtkfedkckakegjaaZFnExactAcceptedWords0
import Derived.Test.YtkfedkckakegjaaOwnAcc
import Derived.Test.YtkfedkckakegjaaOwnSel
import Derived.Test.YtkfedkckakegjaaYFnExactAcceptedWordsAAcc
import Derived.Test.YtkfedkckakegjaaYFnExactAcceptedWordsAFind
namespace Go.Proofs.Ytkfedkckakegjaa.P
open Go.RowKit Go.Proofs.YtkfedkckakegjaaW.PrintWords Go.Proofs.YtkfedkckakegjaaW.PrintLast Go.Proofs.YtkfedkckakegjaaW.PrintMore Go.Proofs.Ytkfedkckakegjaa.Own Go.Proofs.Ytkfedkckakegjaa.A
set_option linter.unusedVariables false
set_option linter.unusedSimpArgs false
/-! ### spec_AcceptedWords: function 29 -/
def spec_AcceptedWords.f (k : Nat) (L : Int) (N : List (List Int)) (F : List Int) (n : Int) : Option (List (List Int) × Bool) := if AuSmall N F then some (resAccepted L N F n) else none
set_option maxHeartbeats 8000000 in
set_option maxRecDepth 100000 in
theorem spec_AcceptedWords.calls (k : Nat) (a0_0 : Int) (A0_1 : Option Addr) (c0_1 : Nat) (l0_1 : List (List Int)) (A0_2 : Option Addr) (c0_2 : Nat) (l0_2 : List Int) (a1 : Int) (r1 : List (List Int)) (r2 : Bool) (w : World) (hr0_1 : Kd.C (Kd.slice 3 (Kd.int .i64)) w A0_1 l0_1.length l0_1) (hc0_1 : l0_1.length ≤ c0_1) (hr0_2 : Kd.C (Kd.int .i64) w A0_2 l0_2.length l0_2) (hc0_2 : l0_2.length ≤ c0_2) (h : spec_AcceptedWords.f k a0_0 l0_1 l0_2 a1 = some (r1, r2)) :
    Calls Try.prog 29 #[.agg #[.int .i64 a0_0, .slice A0_1 l0_1.length c0_1, .slice A0_2 l0_2.length c0_2], .int .i64 a1] w fun e w' => ∃ v0_ : Value, e = .returned (.tuple #[v0_, .bool r2]) ∧ Kd.S (Kd.slice 3 (Kd.int .i64)) 23 w' w.heap.size (fun _ => True) v0_ r1 ∧ Below w.heap.size w w' := by
  have hu29 := Try.underlying29
  unfold spec_AcceptedWords.f at h
  by_cases hsm : AuSmall l0_1 l0_2
  case neg => rw [if_neg hsm] at h; simp at h
  rw [if_pos hsm] at h
  replace h := Option.some.inj h
  unfold resAccepted at h
  have H1 := Aside0.mk hr0_1
  have H2 := Aside0.mk hr0_2
  have HC1 := Aside0.mk hc0_1
  have HC2 := Aside0.mk hc0_2
  have HB0 : Aside0 (Below w.heap.size w (w.alloc (.cells #[.int .i64 a0_0, .slice A0_1 l0_1.length c0_1, .slice A0_2 l0_2.length c0_2] 29))) := ⟨below_alloc (Below.refl _ _) _⟩
  have BK0 := Aside0.mk (blk_new w (.cells #[.int .i64 a0_0, .slice A0_1 l0_1.length c0_1, .slice A0_2 l0_2.length c0_2] 29))
  have hF0 : l0_2.length ≤ maxLen := by have := hsm.2.2; simp only [maxLen]; omega
  obtain ⟨K, hK⟩ := auGood a0_0 l0_1 l0_2 (by simp only [maxLen]; have := hsm.1; omega) (fun x hx => by have := hsm.2.1 x hx; simp only [maxLen]; omega) hF0
  have HK : Aside0 (spec_auGood.f K a0_0 l0_1 l0_2 = some (decide (AuOk a0_0 l0_1 l0_2))) := ⟨hK K (Nat.le_refl _)⟩
  clear hr0_1 hc0_1 hr0_2 hc0_2 hK hsm
  by_cases hA : AuOk a0_0 l0_1 l0_2
  · have HK2 : Aside0 (spec_auGood.f K a0_0 l0_1 l0_2 = some true) := ⟨by rw [HK.out, decide_eq_true hA]⟩
    clear HK
    by_cases hn : 0 ≤ a1 ∧ a1 ≤ 6
    · rw [if_pos ⟨hA, hn⟩] at h
      have HA := Aside0.mk hA
      obtain ⟨Ln, eL⟩ : ∃ Ln : Nat, a0_0 = (Ln : Int) := ⟨a0_0.toNat, by have := hA.1; omega⟩
      subst eL
      obtain ⟨nn, en⟩ : ∃ nn : Nat, a1 = (nn : Int) := ⟨a1.toNat, by omega⟩
      subst en
      simp only [Prod.mk.injEq, Int.toNat_natCast] at h
      obtain ⟨hr, rfl⟩ := h
      have hn6 : nn ≤ 6 := by omega
      have hLn : 1 ≤ Ln ∧ Ln ≤ 3 := by have := hA.1; omega
      have HR := Aside0.mk hr
      have HF0 := Aside0.mk hF0
      have HIN : Aside0 (spec_l1In.f (nn : Int) 0 6 = some true) := ⟨by rw [in_f, decide_eq_true (by omega)]⟩
      clear hA hn hr hF0
      go_enter Try.func29, Try.ntmps29
      go_wp2_with fail
      refine (spec_auGood.calls K _ _ _ _ _ _ _ true _ (Kd.C_below H1.out HB0.out) HC1.out (Kd.C_below H2.out HB0.out) HC2.out HK2.out).mono ?_
      rintro e w1 ⟨rfl, hb⟩
      have HB1 := Aside0.mk (below_step HB0.out hb)
      have BK1 := Aside0.mk (blk_below BK0.out hb)
      clear hb HB0 BK0 HK2
      go_wp2_with fail
      refine (spec_l1In.calls _ 0 6 true _ HIN.out).mono ?_
      rintro e w2_ ⟨rfl, ⟨nd1, rfl⟩⟩
      go_wp2_with (first
        | ((with_reducible refine gate_dst (N := 21) rfl ?_); refine Kd.S_lits (Kd.slice 3 (Kd.int .i64)) (w0 := w) w.heap.size 23 rfl (N := 21) rfl (xs := ([[]] : List (List Int))) (inner := [.slice none 0 0]) (ok := fun k => True) (fun j k => j = 0 ∧ some k = (Value.slice none 0 0).ownBlock) ?h1 ?h2 ?h3 ?h4 ?h5 ?h6 ?h7 ?h8 ?h9 ?_; (case h1 => first | (go_simp; done) | (go_simp; rfl)); (case h2 => exact rfl); (case h3 => exact one_rep (Kd.R_nil (Kd.int .i64) 3 _ w.heap.size (fun _ => True))); (case h4 => exact (fun i j k h1 h2 => h1.1.trans h2.1.symm)); (case h5 => exact (fun j k h1 => trivial)); (case h6 => exact trivial); (case h7 => exact below_step HB1.out (by repeat (first | with_reducible exact Below.refl _ _ | with_reducible apply below_alloc | with_reducible apply pw_below_drewN | with_reducible apply below_drew1))); (case h8 => exact (below_step HB1.out (by repeat (first | with_reducible exact Below.refl _ _ | with_reducible apply below_alloc | with_reducible apply pw_below_drewN | with_reducible apply below_drew1))).size); (case h9 => exact (by simp)); intro v7 w5 ho hb hg hnew; have hB := Below.of_grown hg rfl; have HS : Aside0 (AccM w w5 w.heap.size #[.int .i64 Ln, .slice A0_1 l0_1.length c0_1, .slice A0_2 l0_2.length c0_2] (.slice none 0 0) v7 [] [[]]) := ⟨⟨Kd.S_nil _ _ _ _ _, Kd.S_mono ho (fun k _ => by simp [Value.ownBlock]), blk_below (blk_below BK1.out (by repeat (first | with_reducible exact Below.refl _ _ | with_reducible apply below_alloc | with_reducible apply pw_below_drewN | with_reducible apply below_drew1))) hB, hb⟩⟩; clear ho hb hg hnew hB BK1 HB1))
      go_loopw [6, 7, 8] (fun v6 v7 v8 wr => ∃ (k : Nat) (O X : List (List Int)), v8 = .int .i64 k ∧ k ≤ nn + 1 ∧ 1 ≤ X.length ∧ O.length ≤ 40 ∧ Aside0 (X.length ≤ 3 ^ k) ∧ Aside0 (AccM w wr w.heap.size #[.int .i64 Ln, .slice A0_1 l0_1.length c0_1, .slice A0_2 l0_2.length c0_2] v6 v7 O X) ∧ Aside0 (∀ x ∈ X, VW (Ln : Int) k x) ∧ Aside0 (accA l0_1 l0_2 Ln (nn + 1 - k) (O, X) = r1)) (fun _ _ i _ => nn + 1 - (intOf i).toNat)
      case atStart => exact ⟨0, [], [[]], rfl, Nat.zero_le _, by simp, by simp, ⟨by simp⟩, ⟨HS.out.below (by repeat (first | with_reducible exact Below.refl _ _ | with_reducible apply below_alloc | with_reducible apply pw_below_drewN | with_reducible apply below_drew1))⟩, ⟨fun x hx => by simp at hx; subst hx; exact ⟨Nat.le_refl _, by simp⟩⟩, HR⟩
      case round =>
        clear HS HR
        obtain ⟨k, O, X, rfl, hk, hX1, hO, HX3, HS, HVX, HQ⟩ := hrel
        obtain ⟨A6, c6, e6⟩ := Kd.S_slice HS.out.o
        subst e6
        obtain ⟨A7, c7, e7⟩ := Kd.S_slice HS.out.x
        subst e7
        by_cases hlt : k ≤ nn
        · obtain ⟨ad7, _, _, ea7, -⟩ := at_L1 (Kd.S_reads' HS.out.x).2.2 (0 : Int) (by omega) (by omega)
          subst ea7
          have hX3 : X.length ≤ 729 := Nat.le_trans HX3.out (Nat.le_trans (Nat.pow_le_pow_right (by omega) (show k ≤ 6 by omega)) (by decide))
          have hQ := HQ.out
          rw [show nn + 1 - k = (nn - k) + 1 by omega, accA] at hQ
          have HQ : Aside0 (accA l0_1 l0_2 Ln (nn - k) (accB l0_1 l0_2 Ln (X.drop 0) O []) = r1) := ⟨by rw [← hQ]; simp⟩
          clear hQ
          have HS0 := Aside0.mk (HS.out.nil)
          go_wp2
          go_loopw [6, 9, 29] (fun v6 v9 vj wr => ∃ (j : Nat) (O Y : List (List Int)), vj = .int .i64 j ∧ j ≤ X.length ∧ O.length ≤ 40 ∧ j ≤ Y.length ∧ Y.length ≤ 3 * j ∧ Aside0 (Acc w wr w.heap.size #[.int .i64 Ln, .slice A0_1 l0_1.length c0_1, .slice A0_2 l0_2.length c0_2] v6 (.slice (some ad7) X.length c7) v9 O X Y) ∧ Aside0 (∀ y ∈ Y, VW (Ln : Int) (k + 1) y) ∧ Aside0 (accA l0_1 l0_2 Ln (nn - k) (accB l0_1 l0_2 Ln (X.drop j) O Y) = r1)) (fun _ _ j _ => X.length - (intOf j).toNat)
          case atStart => exact ⟨0, O, [], rfl, Nat.zero_le _, hO, Nat.le_refl _, by simp, ⟨HS0.out.below (by repeat (first | with_reducible exact Below.refl _ _ | with_reducible apply below_alloc | with_reducible apply pw_below_drewN | with_reducible apply below_drew1))⟩, ⟨fun y h => by simp at h⟩, HQ⟩
          case round =>
            clear HS0 HS HQ hO
            obtain ⟨j, O, Y, rfl, hj, hO, hY1, hY2, HS, HVY, HQ⟩ := hrel
            obtain ⟨A6, c6, e6⟩ := Kd.S_slice HS.out.o
            subst e6
            obtain ⟨A9, c9, e9⟩ := Kd.S_slice HS.out.y
            subst e9
            by_cases hjl : j < X.length
            · obtain ⟨f, hf⟩ := HS.out.x
              obtain ⟨Aw, cw, hcell, hRw, -⟩ := pick hf j hjl
              obtain ⟨wd, hwd⟩ : ∃ wd, wd = X.getD j [] := ⟨_, rfl⟩
              rw [← hwd] at hcell hRw
              have hmem : X[j]? = some wd := by rw [hwd]; simp [List.getD_eq_getElem?_getD, hjl]
              have hvw := HVX.out wd (List.mem_of_getElem? hmem)
              have HVW := Aside0.mk hvw
              have hw7 : wd.length ≤ 7 := by have := hvw.1; omega
              have hdrop : X.drop j = wd :: X.drop (j + 1) := by rw [List.drop_eq_getElem_cons hjl, hwd]; simp [List.getD_eq_getElem?_getD, hjl]
              have hQ := HQ.out
              rw [hdrop, accB] at hQ
              obtain ⟨st, hst⟩ : ∃ st, st = runA l0_1 0 wd := ⟨_, rfl⟩
              obtain ⟨K1, hK1⟩ := auRun (Ln : Int) l0_1 l0_2 HA.out wd (by simp only [maxLen]; omega) hvw.2
              rw [← hst] at hK1
              have HK1 := Aside0.mk (hK1 K1 (Nat.le_refl _))
              obtain ⟨K2, hK2⟩ := l1Has l0_2 st HF0.out
              have HKm : Aside0 (spec_l1Has.f K2 l0_2 st = some (decide (st ∈ l0_2))) := ⟨hK2 K2 (Nat.le_refl _)⟩
              have HW : Aside0 (AccW w wr w.heap.size #[.int .i64 Ln, .slice A0_1 l0_1.length c0_1, .slice A0_2 l0_2.length c0_2] (.slice A6 O.length c6) (.slice (some ad7) X.length c7) (.slice A9 Y.length c9) O X Y (.slice Aw wd.length cw) wd) := ⟨⟨HS.out, Kd.R_mono hRw (fun _ _ => trivial)⟩⟩
              have z1 := hcell
              clear hf hRw hcell hwd hmem hvw hdrop hK1 hK2 HS HQ
              by_cases hO4 : O.length < 40
              · by_cases hm : st ∈ l0_2
                · skip
                  have HK2 : Aside0 (spec_l1Has.f K2 l0_2 st = some true) := ⟨by rw [HKm.out, decide_eq_true hm]⟩
                  have HQ : Aside0 (accA l0_1 l0_2 Ln (nn - k) (accB l0_1 l0_2 Ln (X.drop (j + 1)) (O ++ [wd]) (Y ++ kids wd (Ln - 0) ((0 : Nat) : Int))) = r1) := ⟨by rw [← hQ, putO, if_pos ⟨hO4, by rw [← hst]; exact hm⟩]; rfl⟩
                  have d4 : decide ((O.length : Int) < 40) = true := decide_eq_true (by omega)
                  clear hQ hst HKm
                  go_wp2
                  refine start_ (n := 11) (S := fun w' => w'.cell? ⟨w.heap.size, 0, none⟩ = some (.int .i64 Ln) ∧ w'.cell? ⟨w.heap.size, 1, none⟩ = some (.slice A0_1 l0_1.length c0_1) ∧ w'.cell? ⟨w.heap.size, 2, none⟩ = some (.slice A0_2 l0_2.length c0_2)) (ds := []) #[false, false, false, false, false, false, false, false, false, false, false] (by kernel_rfl) rfl rfl ⟨(blk_cell HW.out.a.bk 0).trans rfl, (blk_cell HW.out.a.bk 1).trans rfl, (blk_cell HW.out.a.bk 2).trans rfl⟩ (fun hHeld => ?_)
                  refine Own.anew_ (wN := wr) (by repeat (first | with_reducible exact Below.refl _ _ | with_reducible apply below_alloc | with_reducible apply pw_below_drewN | with_reducible apply below_drew1)) hHeld (fun wa hb hHeld => ?_)
                  replace HW := Aside0.mk (HW.out.below hb)
                  clear hb
                  refine pure_ (i := 0) (N := some 33) (v := ?_) (a' := ?_) #[true, false, false, false, false, false, false, false, false, false, false] rfl rfl (by kernel_rfl) (fun _ _ _ h => h) (Or.inl ⟨by rfl, ?_⟩) ?_ ?_
                  rotate_left
                  · intro w'
                    go_simp
                    with_reducible rfl
                  rotate_left
                  · simp only [Act.put, List.setIfInBounds_toArray, List.set_cons_zero, List.set_cons_succ, i64_w, i32_w]
                    rfl
                  refine pure_ (i := 3) (N := some 36) (v := ?_) (a' := ?_) #[true, false, false, true, false, false, false, false, false, false, false] rfl rfl (by kernel_rfl) (fun _ _ _ h => h) (Or.inl ⟨by rfl, ?_⟩) ?_ ?_
                  rotate_left
                  · intro w'
                    go_simp
                    with_reducible rfl
                  rotate_left
                  · simp only [Act.put, List.setIfInBounds_toArray, List.set_cons_zero, List.set_cons_succ, i64_w, i32_w]
                    rfl
                  refine take_ (i := 1) (N := some 34) (v := ?_) (a' := ?_) #[true, true, false, true, false, false, false, false, false, false, false] rfl rfl (by kernel_rfl) (fun _ _ _ h => h) (Or.inl ⟨by rfl, ?_⟩) hHeld ?_ ?_
                  rotate_left
                  · rintro w' ⟨s0, s1, s2⟩
                    go_simp
                    with_reducible rfl
                  rotate_left
                  · simp only [Act.put, List.setIfInBounds_toArray, List.set_cons_zero, List.set_cons_succ, i64_w, i32_w]
                    rfl
                  refine take_ (i := 2) (N := some 35) (v := ?_) (a' := ?_) #[true, true, true, true, false, false, false, false, false, false, false] rfl rfl (by kernel_rfl) (fun _ _ _ h => h) (Or.inl ⟨by rfl, ?_⟩) hHeld ?_ ?_
                  rotate_left
                  · rintro w' ⟨s0, s1, s2⟩
                    go_simp
                    with_reducible rfl
                  rotate_left
                  · simp only [Act.put, List.setIfInBounds_toArray, List.set_cons_zero, List.set_cons_succ, i64_w, i32_w]
                    rfl
                  refine one_ (i := 4) (N := some 37) #[true, true, true, true, true, false, false, false, false, false, false] rfl rfl (by kernel_rfl) (by decide) (fun K hK => ?_)
                  refine goes_ Try.func46 (by kernel_rfl) rfl #[.agg #[.int .i64 Ln, .slice A0_1 l0_1.length c0_1, .slice A0_2 l0_2.length c0_2], .slice Aw wd.length cw] (by rfl) rfl rfl (by (try simp only [List.map_toArray, List.map_cons, List.map_nil]); first | done | rfl) ?_
                  with_reducible refine (spec_auRun.calls K1 _ _ _ l0_1 _ _ l0_2 _ _ wd st _ (Kd.C_below H1.out HW.out.a.be) HC1.out (Kd.C_below H2.out HW.out.a.be) HC2.out (Kd.R_reads' HW.out.cu).2.2 (Kd.R_reads' HW.out.cu).2.1 HK1.out).mono ?_
                  rintro e wb ⟨rfl, hb⟩
                  refine ⟨_, rfl, ?_⟩
                  replace HW := Aside0.mk (HW.out.below hb)
                  clear hb
                  refine hK.out _ _ ⟨(blk_cell HW.out.a.bk 0).trans rfl, (blk_cell HW.out.a.bk 1).trans rfl, (blk_cell HW.out.a.bk 2).trans rfl⟩ (fun hHeld => ?_)
                  clear hK K
                  refine norm_ (a' := ?_) ?_ ?_
                  rotate_left
                  · show Act.put _ (some 37) _ = _
                    simp only [Act.put, List.setIfInBounds_toArray, List.set_cons_zero, List.set_cons_succ, i64_w, i32_w]
                    rfl
                  refine one_ (i := 5) (N := some 38) #[true, true, true, true, true, true, false, false, false, false, false] rfl rfl (by kernel_rfl) (by decide) (fun K hK => ?_)
                  refine goes_ Try.func51 (by kernel_rfl) rfl #[.slice A0_2 l0_2.length c0_2, .int .i64 st] (by rfl) rfl rfl (by (try simp only [List.map_toArray, List.map_cons, List.map_nil]); first | done | rfl) ?_
                  with_reducible refine (spec_l1Has.calls K2 _ _ l0_2 st true _ (Kd.C_below H2.out HW.out.a.be) HC2.out HK2.out).mono ?_
                  rintro e wb ⟨rfl, ⟨nd, rfl⟩⟩
                  refine ⟨_, rfl, ?_⟩
                  replace HW := Aside0.mk (HW.out.below (by repeat (first | with_reducible exact Below.refl _ _ | with_reducible apply below_alloc | with_reducible apply pw_below_drewN | with_reducible apply below_drew1)))
                  refine hK.out _ _ ⟨(blk_cell HW.out.a.bk 0).trans rfl, (blk_cell HW.out.a.bk 1).trans rfl, (blk_cell HW.out.a.bk 2).trans rfl⟩ (fun hHeld => ?_)
                  clear hK K
                  refine norm_ (a' := ?_) ?_ ?_
                  rotate_left
                  · show Act.put _ (some 38) _ = _
                    simp only [Act.put, List.setIfInBounds_toArray, List.set_cons_zero, List.set_cons_succ, i64_w, i32_w]
                    rfl
                  refine pure_ (i := 6) (N := some 39) (v := ?_) (a' := ?_) #[true, true, true, true, true, true, true, false, false, false, false] rfl rfl (by kernel_rfl) (fun _ _ _ h => h) (Or.inl ⟨by rfl, ?_⟩) ?_ ?_
                  rotate_left
                  · intro w'
                    go_simp
                    with_reducible rfl
                  rotate_left
                  · simp only [Act.put, List.setIfInBounds_toArray, List.set_cons_zero, List.set_cons_succ, i64_w, i32_w]
                    rfl
                  refine pure_ (i := 7) (N := some 40) (v := ?_) (a' := ?_) #[true, true, true, true, true, true, true, true, false, false, false] rfl rfl (by kernel_rfl) (fun _ _ _ h => h) (Or.inl ⟨by rfl, ?_⟩) ?_ ?_
                  rotate_left
                  · intro w'
                    go_simp
                    with_reducible rfl
                  rotate_left
                  · simp only [Act.put, List.setIfInBounds_toArray, List.set_cons_zero, List.set_cons_succ, i64_w, i32_w]
                    rfl
                  refine pure_ (i := 8) (N := some 41) (v := ?_) (a' := ?_) #[true, true, true, true, true, true, true, true, true, false, false] rfl rfl (by kernel_rfl) (fun _ _ _ h => h) (Or.inl ⟨by rfl, ?_⟩) ?_ ?_
                  rotate_left
                  · intro w'
                    go_simp
                    with_reducible rfl
                  rotate_left
                  · simp only [Act.put, List.setIfInBounds_toArray, List.set_cons_zero, List.set_cons_succ, i64_w, i32_w]
                    rfl
                  refine pure_ (i := 9) (N := some 42) (v := ?_) (a' := ?_) #[true, true, true, true, true, true, true, true, true, true, false] rfl rfl (by kernel_rfl) (fun _ _ _ h => h) (Or.inl ⟨by rfl, ?_⟩) ?_ ?_
                  rotate_left
                  · intro w'
                    go_simp
                    with_reducible rfl
                  rotate_left
                  · simp only [Act.put, List.setIfInBounds_toArray, List.set_cons_zero, List.set_cons_succ, i64_w, i32_w]
                    rfl
                  refine pure_ (i := 10) (N := some 43) (v := ?_) (a' := ?_) #[true, true, true, true, true, true, true, true, true, true, true] rfl rfl (by kernel_rfl) (fun _ _ _ h => h) (Or.inl ⟨by rfl, ?_⟩) ?_ ?_
                  rotate_left
                  · intro w'
                    go_simp
                    with_reducible rfl
                  rotate_left
                  · simp only [Act.put, List.setIfInBounds_toArray, List.set_cons_zero, List.set_cons_succ, i64_w, i32_w]
                    rfl
                  refine done_ (by kernel_rfl) ?_
                  go_wp2_with (first
                    | (go_at_call 57; (with_reducible refine (spec_l1Own.calls _ _ wd wd _ (Kd.R_reads' (HW.out.below (by repeat (first | with_reducible exact Below.refl _ _ | with_reducible apply below_alloc | with_reducible apply pw_below_drewN | with_reducible apply below_drew1))).cu).2.2 (Kd.R_reads' HW.out.cu).2.1 (l1Own wd (by omega))).mono ?_); rintro e wlo ⟨vlo, rfl, ho, hb⟩; have HBo := Aside0.mk ((HW.out.below (by repeat (first | with_reducible exact Below.refl _ _ | with_reducible apply below_alloc | with_reducible apply pw_below_drewN | with_reducible apply below_drew1))).lit ho hb); clear ho hb; obtain ⟨Alo, clo, elo⟩ := Kd.R_slice HBo.out.a.li; subst elo)
                    | ((with_reducible refine gate_builtin (b := .append) (xs := #[.tmp 44, .tmp 47]) rfl ?_); at_builtin; refine Kd.S_append (Kd.slice 3 (Kd.int .i64)) (w0 := w) w.heap.size rfl (.tmp 44) (.tmp 47) 22 23 (.slice none 0 0) 24 rfl Try.underlying22 info23 rfl (by decide) (by omega) (.slice A6 O.length c6) O wd [.slice Alo wd.length clo] (fun k_ => some k_ ≠ (Value.slice (some ad7) X.length c7).ownBlock ∧ some k_ ≠ (Value.slice A9 Y.length c9).ownBlock) (fun k_ => some k_ = (Value.slice Alo wd.length clo).ownBlock) rfl rfl ?aM ?aK ?aF ?aO ?aB ?aS ?aL ?_; (case aM => exact (HBo.out.below (by repeat (first | with_reducible exact Below.refl _ _ | with_reducible apply below_alloc | with_reducible apply pw_below_drewN | with_reducible apply below_drew1))).a.mem); (case aK => exact (HBo.out.below (by repeat (first | with_reducible exact Below.refl _ _ | with_reducible apply below_alloc | with_reducible apply pw_below_drewN | with_reducible apply below_drew1))).a.okO); (case aF => exact (HBo.out.below (by repeat (first | with_reducible exact Below.refl _ _ | with_reducible apply below_alloc | with_reducible apply pw_below_drewN | with_reducible apply below_drew1))).a.freshO); (case aO => exact (HBo.out.below (by repeat (first | with_reducible exact Below.refl _ _ | with_reducible apply below_alloc | with_reducible apply pw_below_drewN | with_reducible apply below_drew1))).a.o); (case aB => exact (HBo.out.below (by repeat (first | with_reducible exact Below.refl _ _ | with_reducible apply below_alloc | with_reducible apply pw_below_drewN | with_reducible apply below_drew1))).a.be); (case aS => exact (HBo.out.below (by repeat (first | with_reducible exact Below.refl _ _ | with_reducible apply below_alloc | with_reducible apply pw_below_drewN | with_reducible apply below_drew1))).a.be.size); (case aL => omega); intro vso wso ho hb hg hat; have HW1 := Aside0.mk ((HBo.out.below (by repeat (first | with_reducible exact Below.refl _ _ | with_reducible apply below_alloc | with_reducible apply pw_below_drewN | with_reducible apply below_drew1))).doneO ho hb hg hat); clear ho hb hg hat HBo))
                  obtain ⟨O1, hO1⟩ : ∃ O1, O1 = O ++ [wd] := ⟨_, rfl⟩
                  rw [← hO1] at HW1 HQ
                  have hl40 : O1.length ≤ 40 := by rw [hO1]; simp; omega
                  clear hO1 HW
                  go_loopw [9, 12] (fun v9 v12 wr => ∃ (x : Nat) (Y2 : List (List Int)), v12 = .int .i64 x ∧ x ≤ Ln ∧ j + x ≤ Y2.length ∧ Y2.length ≤ 3 * j + x ∧ Aside0 (AccW w wr w.heap.size #[.int .i64 Ln, .slice A0_1 l0_1.length c0_1, .slice A0_2 l0_2.length c0_2] vso (.slice (some ad7) X.length c7) v9 O1 X Y2 (.slice Aw wd.length cw) wd) ∧ Aside0 (∀ y ∈ Y2, VW (Ln : Int) (k + 1) y) ∧ Aside0 (accA l0_1 l0_2 Ln (nn - k) (accB l0_1 l0_2 Ln (X.drop (j + 1)) O1 (Y2 ++ kids wd (Ln - x) (x : Int))) = r1)) (fun _ x _ => Ln - (intOf x).toNat)
                  case atStart => exact ⟨0, Y, rfl, Nat.zero_le _, by omega, by omega, ⟨HW1.out.below (by repeat (first | with_reducible exact Below.refl _ _ | with_reducible apply below_alloc | with_reducible apply pw_below_drewN | with_reducible apply below_drew1))⟩, HVY, HQ⟩
                  case round =>
                    clear HW1 HVY HQ
                    obtain ⟨x, Y2, rfl, hx, hl1, hl2, HW, HVY, HQ⟩ := hrel
                    obtain ⟨A9, c9, e9⟩ := Kd.S_slice HW.out.a.y
                    subst e9
                    have z0 : wr.cell? ⟨w.heap.size, 0, none⟩ = some (.int .i64 Ln) := (blk_cell HW.out.a.bk 0).trans rfl
                    by_cases hxl : x < Ln
                    · have hQ := HQ.out
                      rw [show Ln - x = (Ln - (x + 1)) + 1 by omega, kids] at hQ
                      have HQ : Aside0 (accA l0_1 l0_2 Ln (nn - k) (accB l0_1 l0_2 Ln (X.drop (j + 1)) O1 ((Y2 ++ [wd ++ [(x : Int)]]) ++ kids wd (Ln - (x + 1)) ((x + 1 : Nat) : Int))) = r1) := ⟨by rw [← hQ]; simp⟩
                      have HVY2 : Aside0 (∀ y ∈ Y2 ++ [wd ++ [(x : Int)]], VW (Ln : Int) (k + 1) y) := ⟨fun y hy => by
                        rcases List.mem_append.1 hy with hy | hy
                        · exact HVY.out y hy
                        · rw [List.mem_singleton.1 hy]
                          exact HVW.out.snoc (by omega)⟩
                      clear hQ HVY
                      go_wp2_with (first
                        | (go_at_call 57; (with_reducible refine (spec_l1Own.calls _ _ wd wd _ (Kd.R_reads' (HW.out.below (by repeat (first | with_reducible exact Below.refl _ _ | with_reducible apply below_alloc | with_reducible apply pw_below_drewN | with_reducible apply below_drew1))).cu).2.2 (Kd.R_reads' HW.out.cu).2.1 (l1Own wd (by omega))).mono ?_); rintro e wlc ⟨vlc, rfl, ho, hb⟩; have HBc := Aside0.mk ((HW.out.below (by repeat (first | with_reducible exact Below.refl _ _ | with_reducible apply below_alloc | with_reducible apply pw_below_drewN | with_reducible apply below_drew1))).lit ho hb); clear ho hb; obtain ⟨Alc, clc, elc⟩ := Kd.R_slice HBc.out.a.li; subst elc)
                        | ((with_reducible refine gate_builtin (b := .append) (xs := #[.tmp 57, .tmp 59]) rfl ?_); at_builtin; refine Kd.R_append (Kd.int .i64) (w0 := w) w.heap.size rfl (.tmp 57) (.tmp 59) 23 3 (.int .i64 0) 8 rfl Try.underlying23 info3 rfl (by decide) (by omega) (.slice Alc wd.length clc) wd (x : Int) [.int .i64 (x : Int)] (fun _ => True) (fun _ => False) rfl rfl ?aP (fun _ hk => hk.elim) (fun _ _ => trivial) ?aO ?aB ?aS ?aL ?_; (case aP => exact rfl); (case aO => exact (HBc.out.below (by repeat (first | with_reducible exact Below.refl _ _ | with_reducible apply below_alloc | with_reducible apply pw_below_drewN | with_reducible apply below_drew1))).a.li); (case aB => exact (HBc.out.below (by repeat (first | with_reducible exact Below.refl _ _ | with_reducible apply below_alloc | with_reducible apply pw_below_drewN | with_reducible apply below_drew1))).a.be); (case aS => exact (HBc.out.below (by repeat (first | with_reducible exact Below.refl _ _ | with_reducible apply below_alloc | with_reducible apply pw_below_drewN | with_reducible apply below_drew1))).a.be.size); (case aL => omega); intro vx wx ho hb hg hat; have HC := Aside0.mk ((HBc.out.below (by repeat (first | with_reducible exact Below.refl _ _ | with_reducible apply below_alloc | with_reducible apply pw_below_drewN | with_reducible apply below_drew1))).grow ho hb hg hat); clear ho hb hg hat HBc; obtain ⟨yb, hyb⟩ : ∃ y_, y_ = wd ++ [(x : Int)] := ⟨_, rfl⟩; rw [← hyb] at HC; have HY := Aside0.mk hyb; clear hyb; obtain ⟨Ax, cx, ex⟩ := Kd.R_slice HC.out.a.li; subst ex)
                        | ((with_reducible refine gate_builtin (b := .append) (xs := #[.tmp 55, .tmp 61]) rfl ?_); at_builtin; refine Kd.S_append (Kd.slice 3 (Kd.int .i64)) (w0 := w) w.heap.size rfl (.tmp 55) (.tmp 61) 22 23 (.slice none 0 0) 24 rfl Try.underlying22 info23 rfl (by decide) (by omega) (.slice A9 Y2.length c9) Y2 yb [.slice Ax yb.length cx] (fun k_ => some k_ ≠ (Value.slice (some ad7) X.length c7).ownBlock ∧ some k_ ≠ (vso).ownBlock) (fun k_ => some k_ = (Value.slice Ax yb.length cx).ownBlock) rfl rfl ?aM ?aK ?aF ?aO ?aB ?aS ?aL ?_; (case aM => exact (HC.out.below (by repeat (first | with_reducible exact Below.refl _ _ | with_reducible apply below_alloc | with_reducible apply pw_below_drewN | with_reducible apply below_drew1))).a.mem); (case aK => exact (HC.out.below (by repeat (first | with_reducible exact Below.refl _ _ | with_reducible apply below_alloc | with_reducible apply pw_below_drewN | with_reducible apply below_drew1))).a.okY); (case aF => exact (HC.out.below (by repeat (first | with_reducible exact Below.refl _ _ | with_reducible apply below_alloc | with_reducible apply pw_below_drewN | with_reducible apply below_drew1))).a.freshY); (case aO => exact (HC.out.below (by repeat (first | with_reducible exact Below.refl _ _ | with_reducible apply below_alloc | with_reducible apply pw_below_drewN | with_reducible apply below_drew1))).a.y); (case aB => exact (HC.out.below (by repeat (first | with_reducible exact Below.refl _ _ | with_reducible apply below_alloc | with_reducible apply pw_below_drewN | with_reducible apply below_drew1))).a.be); (case aS => exact (HC.out.below (by repeat (first | with_reducible exact Below.refl _ _ | with_reducible apply below_alloc | with_reducible apply pw_below_drewN | with_reducible apply below_drew1))).a.be.size); (case aL => omega); intro vsc wsc ho hb hg hat; have HD := Aside0.mk ((HC.out.below (by repeat (first | with_reducible exact Below.refl _ _ | with_reducible apply below_alloc | with_reducible apply pw_below_drewN | with_reducible apply below_drew1))).doneY ho hb hg hat); clear ho hb hg hat HC))
                      go_roundw
                      case rel => exact ⟨x + 1, Y2 ++ [wd ++ [(x : Int)]], by go_num, by omega, by simp; omega, by simp; omega, ⟨(show AccW w _ w.heap.size #[.int .i64 Ln, .slice A0_1 l0_1.length c0_1, .slice A0_2 l0_2.length c0_2] vso (.slice (some ad7) X.length c7) _ O1 X (Y2 ++ [wd ++ [(x : Int)]]) (.slice Aw wd.length cw) wd from by have h_ := HD.out; rw [HY.out] at h_; exact h_).below (by repeat (first | with_reducible exact Below.refl _ _ | with_reducible apply below_alloc | with_reducible apply pw_below_drewN | with_reducible apply below_drew1))⟩, HVY2, HQ⟩
                      case measure => simp [intOf]; omega
                    · obtain rfl : x = Ln := by omega
                      have hQ := HQ.out
                      rw [Nat.sub_self, kids, List.append_nil] at hQ
                      have HQ := Aside0.mk hQ
                      clear hQ
                      go_wp2
                      go_roundw
                      case rel => exact ⟨j + 1, O1, Y2, by go_num, by omega, by assumption, by omega, by omega, ⟨HW.out.a.below (by repeat (first | with_reducible exact Below.refl _ _ | with_reducible apply below_alloc | with_reducible apply pw_below_drewN | with_reducible apply below_drew1))⟩, HVY, HQ⟩
                      case measure => simp [intOf]; omega
                · skip
                  have HK2 : Aside0 (spec_l1Has.f K2 l0_2 st = some false) := ⟨by rw [HKm.out, decide_eq_false hm]⟩
                  have HQ : Aside0 (accA l0_1 l0_2 Ln (nn - k) (accB l0_1 l0_2 Ln (X.drop (j + 1)) O (Y ++ kids wd (Ln - 0) ((0 : Nat) : Int))) = r1) := ⟨by rw [← hQ, putO, if_neg (fun h_ => hm (by rw [hst]; exact h_.2))]; rfl⟩
                  have d4 : decide ((O.length : Int) < 40) = true := decide_eq_true (by omega)
                  clear hQ hst HKm
                  go_wp2
                  refine start_ (n := 11) (S := fun w' => w'.cell? ⟨w.heap.size, 0, none⟩ = some (.int .i64 Ln) ∧ w'.cell? ⟨w.heap.size, 1, none⟩ = some (.slice A0_1 l0_1.length c0_1) ∧ w'.cell? ⟨w.heap.size, 2, none⟩ = some (.slice A0_2 l0_2.length c0_2)) (ds := []) #[false, false, false, false, false, false, false, false, false, false, false] (by kernel_rfl) rfl rfl ⟨(blk_cell HW.out.a.bk 0).trans rfl, (blk_cell HW.out.a.bk 1).trans rfl, (blk_cell HW.out.a.bk 2).trans rfl⟩ (fun hHeld => ?_)
                  refine Own.anew_ (wN := wr) (by repeat (first | with_reducible exact Below.refl _ _ | with_reducible apply below_alloc | with_reducible apply pw_below_drewN | with_reducible apply below_drew1)) hHeld (fun wa hb hHeld => ?_)
                  replace HW := Aside0.mk (HW.out.below hb)
                  clear hb
                  refine pure_ (i := 0) (N := some 33) (v := ?_) (a' := ?_) #[true, false, false, false, false, false, false, false, false, false, false] rfl rfl (by kernel_rfl) (fun _ _ _ h => h) (Or.inl ⟨by rfl, ?_⟩) ?_ ?_
                  rotate_left
                  · intro w'
                    go_simp
                    with_reducible rfl
                  rotate_left
                  · simp only [Act.put, List.setIfInBounds_toArray, List.set_cons_zero, List.set_cons_succ, i64_w, i32_w]
                    rfl
                  refine pure_ (i := 3) (N := some 36) (v := ?_) (a' := ?_) #[true, false, false, true, false, false, false, false, false, false, false] rfl rfl (by kernel_rfl) (fun _ _ _ h => h) (Or.inl ⟨by rfl, ?_⟩) ?_ ?_
                  rotate_left
                  · intro w'
                    go_simp
                    with_reducible rfl
                  rotate_left
                  · simp only [Act.put, List.setIfInBounds_toArray, List.set_cons_zero, List.set_cons_succ, i64_w, i32_w]
                    rfl
                  refine take_ (i := 1) (N := some 34) (v := ?_) (a' := ?_) #[true, true, false, true, false, false, false, false, false, false, false] rfl rfl (by kernel_rfl) (fun _ _ _ h => h) (Or.inl ⟨by rfl, ?_⟩) hHeld ?_ ?_
                  rotate_left
                  · rintro w' ⟨s0, s1, s2⟩
                    go_simp
                    with_reducible rfl
                  rotate_left
                  · simp only [Act.put, List.setIfInBounds_toArray, List.set_cons_zero, List.set_cons_succ, i64_w, i32_w]
                    rfl
                  refine take_ (i := 2) (N := some 35) (v := ?_) (a' := ?_) #[true, true, true, true, false, false, false, false, false, false, false] rfl rfl (by kernel_rfl) (fun _ _ _ h => h) (Or.inl ⟨by rfl, ?_⟩) hHeld ?_ ?_
                  rotate_left
                  · rintro w' ⟨s0, s1, s2⟩
                    go_simp
                    with_reducible rfl
                  rotate_left
                  · simp only [Act.put, List.setIfInBounds_toArray, List.set_cons_zero, List.set_cons_succ, i64_w, i32_w]
                    rfl
                  refine one_ (i := 4) (N := some 37) #[true, true, true, true, true, false, false, false, false, false, false] rfl rfl (by kernel_rfl) (by decide) (fun K hK => ?_)
                  refine goes_ Try.func46 (by kernel_rfl) rfl #[.agg #[.int .i64 Ln, .slice A0_1 l0_1.length c0_1, .slice A0_2 l0_2.length c0_2], .slice Aw wd.length cw] (by rfl) rfl rfl (by (try simp only [List.map_toArray, List.map_cons, List.map_nil]); first | done | rfl) ?_
                  with_reducible refine (spec_auRun.calls K1 _ _ _ l0_1 _ _ l0_2 _ _ wd st _ (Kd.C_below H1.out HW.out.a.be) HC1.out (Kd.C_below H2.out HW.out.a.be) HC2.out (Kd.R_reads' HW.out.cu).2.2 (Kd.R_reads' HW.out.cu).2.1 HK1.out).mono ?_
                  rintro e wb ⟨rfl, hb⟩
                  refine ⟨_, rfl, ?_⟩
                  replace HW := Aside0.mk (HW.out.below hb)
                  clear hb
                  refine hK.out _ _ ⟨(blk_cell HW.out.a.bk 0).trans rfl, (blk_cell HW.out.a.bk 1).trans rfl, (blk_cell HW.out.a.bk 2).trans rfl⟩ (fun hHeld => ?_)
                  clear hK K
                  refine norm_ (a' := ?_) ?_ ?_
                  rotate_left
                  · show Act.put _ (some 37) _ = _
                    simp only [Act.put, List.setIfInBounds_toArray, List.set_cons_zero, List.set_cons_succ, i64_w, i32_w]
                    rfl
                  refine one_ (i := 5) (N := some 38) #[true, true, true, true, true, true, false, false, false, false, false] rfl rfl (by kernel_rfl) (by decide) (fun K hK => ?_)
                  refine goes_ Try.func51 (by kernel_rfl) rfl #[.slice A0_2 l0_2.length c0_2, .int .i64 st] (by rfl) rfl rfl (by (try simp only [List.map_toArray, List.map_cons, List.map_nil]); first | done | rfl) ?_
                  with_reducible refine (spec_l1Has.calls K2 _ _ l0_2 st false _ (Kd.C_below H2.out HW.out.a.be) HC2.out HK2.out).mono ?_
                  rintro e wb ⟨rfl, ⟨nd, rfl⟩⟩
                  refine ⟨_, rfl, ?_⟩
                  replace HW := Aside0.mk (HW.out.below (by repeat (first | with_reducible exact Below.refl _ _ | with_reducible apply below_alloc | with_reducible apply pw_below_drewN | with_reducible apply below_drew1)))
                  refine hK.out _ _ ⟨(blk_cell HW.out.a.bk 0).trans rfl, (blk_cell HW.out.a.bk 1).trans rfl, (blk_cell HW.out.a.bk 2).trans rfl⟩ (fun hHeld => ?_)
                  clear hK K
                  refine norm_ (a' := ?_) ?_ ?_
                  rotate_left
                  · show Act.put _ (some 38) _ = _
                    simp only [Act.put, List.setIfInBounds_toArray, List.set_cons_zero, List.set_cons_succ, i64_w, i32_w]
                    rfl
                  refine pure_ (i := 6) (N := some 39) (v := ?_) (a' := ?_) #[true, true, true, true, true, true, true, false, false, false, false] rfl rfl (by kernel_rfl) (fun _ _ _ h => h) (Or.inl ⟨by rfl, ?_⟩) ?_ ?_
                  rotate_left
                  · intro w'
                    go_simp
                    with_reducible rfl
                  rotate_left
                  · simp only [Act.put, List.setIfInBounds_toArray, List.set_cons_zero, List.set_cons_succ, i64_w, i32_w]
                    rfl
                  refine pure_ (i := 7) (N := some 40) (v := undef) (a' := ?_) #[true, true, true, true, true, true, true, true, false, false, false] rfl rfl (by kernel_rfl) (fun _ _ _ h => h) (Or.inr ⟨by rfl, rfl⟩) ?_ ?_
                  rotate_left
                  · simp only [Act.put, List.setIfInBounds_toArray, List.set_cons_zero, List.set_cons_succ, i64_w, i32_w]
                    rfl
                  refine pure_ (i := 8) (N := some 41) (v := undef) (a' := ?_) #[true, true, true, true, true, true, true, true, true, false, false] rfl rfl (by kernel_rfl) (fun _ _ _ h => h) (Or.inr ⟨by rfl, rfl⟩) ?_ ?_
                  rotate_left
                  · simp only [Act.put, List.setIfInBounds_toArray, List.set_cons_zero, List.set_cons_succ, i64_w, i32_w]
                    rfl
                  refine pure_ (i := 9) (N := some 42) (v := undef) (a' := ?_) #[true, true, true, true, true, true, true, true, true, true, false] rfl rfl (by kernel_rfl) (fun _ _ _ h => h) (Or.inr ⟨by rfl, rfl⟩) ?_ ?_
                  rotate_left
                  · simp only [Act.put, List.setIfInBounds_toArray, List.set_cons_zero, List.set_cons_succ, i64_w, i32_w]
                    rfl
                  refine pure_ (i := 10) (N := some 43) (v := ?_) (a' := ?_) #[true, true, true, true, true, true, true, true, true, true, true] rfl rfl (by kernel_rfl) (fun _ _ _ h => h) (Or.inl ⟨by rfl, ?_⟩) ?_ ?_
                  rotate_left
                  · intro w'
                    go_simp
                    with_reducible rfl
                  rotate_left
                  · simp only [Act.put, List.setIfInBounds_toArray, List.set_cons_zero, List.set_cons_succ, i64_w, i32_w]
                    rfl
                  refine done_ (by kernel_rfl) ?_
                  go_wp2
                  go_loopw [9, 12] (fun v9 v12 wr => ∃ (x : Nat) (Y2 : List (List Int)), v12 = .int .i64 x ∧ x ≤ Ln ∧ j + x ≤ Y2.length ∧ Y2.length ≤ 3 * j + x ∧ Aside0 (AccW w wr w.heap.size #[.int .i64 Ln, .slice A0_1 l0_1.length c0_1, .slice A0_2 l0_2.length c0_2] (.slice A6 O.length c6) (.slice (some ad7) X.length c7) v9 O X Y2 (.slice Aw wd.length cw) wd) ∧ Aside0 (∀ y ∈ Y2, VW (Ln : Int) (k + 1) y) ∧ Aside0 (accA l0_1 l0_2 Ln (nn - k) (accB l0_1 l0_2 Ln (X.drop (j + 1)) O (Y2 ++ kids wd (Ln - x) (x : Int))) = r1)) (fun _ x _ => Ln - (intOf x).toNat)
                  case atStart => exact ⟨0, Y, rfl, Nat.zero_le _, by omega, by omega, ⟨HW.out.below (by repeat (first | with_reducible exact Below.refl _ _ | with_reducible apply below_alloc | with_reducible apply pw_below_drewN | with_reducible apply below_drew1))⟩, HVY, HQ⟩
                  case round =>
                    clear HW HVY HQ
                    obtain ⟨x, Y2, rfl, hx, hl1, hl2, HW, HVY, HQ⟩ := hrel
                    obtain ⟨A9, c9, e9⟩ := Kd.S_slice HW.out.a.y
                    subst e9
                    have z0 : wr.cell? ⟨w.heap.size, 0, none⟩ = some (.int .i64 Ln) := (blk_cell HW.out.a.bk 0).trans rfl
                    by_cases hxl : x < Ln
                    · have hQ := HQ.out
                      rw [show Ln - x = (Ln - (x + 1)) + 1 by omega, kids] at hQ
                      have HQ : Aside0 (accA l0_1 l0_2 Ln (nn - k) (accB l0_1 l0_2 Ln (X.drop (j + 1)) O ((Y2 ++ [wd ++ [(x : Int)]]) ++ kids wd (Ln - (x + 1)) ((x + 1 : Nat) : Int))) = r1) := ⟨by rw [← hQ]; simp⟩
                      have HVY2 : Aside0 (∀ y ∈ Y2 ++ [wd ++ [(x : Int)]], VW (Ln : Int) (k + 1) y) := ⟨fun y hy => by
                        rcases List.mem_append.1 hy with hy | hy
                        · exact HVY.out y hy
                        · rw [List.mem_singleton.1 hy]
                          exact HVW.out.snoc (by omega)⟩
                      clear hQ HVY
                      go_wp2_with (first
                        | (go_at_call 57; (with_reducible refine (spec_l1Own.calls _ _ wd wd _ (Kd.R_reads' (HW.out.below (by repeat (first | with_reducible exact Below.refl _ _ | with_reducible apply below_alloc | with_reducible apply pw_below_drewN | with_reducible apply below_drew1))).cu).2.2 (Kd.R_reads' HW.out.cu).2.1 (l1Own wd (by omega))).mono ?_); rintro e wlc ⟨vlc, rfl, ho, hb⟩; have HBc := Aside0.mk ((HW.out.below (by repeat (first | with_reducible exact Below.refl _ _ | with_reducible apply below_alloc | with_reducible apply pw_below_drewN | with_reducible apply below_drew1))).lit ho hb); clear ho hb; obtain ⟨Alc, clc, elc⟩ := Kd.R_slice HBc.out.a.li; subst elc)
                        | ((with_reducible refine gate_builtin (b := .append) (xs := #[.tmp 57, .tmp 59]) rfl ?_); at_builtin; refine Kd.R_append (Kd.int .i64) (w0 := w) w.heap.size rfl (.tmp 57) (.tmp 59) 23 3 (.int .i64 0) 8 rfl Try.underlying23 info3 rfl (by decide) (by omega) (.slice Alc wd.length clc) wd (x : Int) [.int .i64 (x : Int)] (fun _ => True) (fun _ => False) rfl rfl ?aP (fun _ hk => hk.elim) (fun _ _ => trivial) ?aO ?aB ?aS ?aL ?_; (case aP => exact rfl); (case aO => exact (HBc.out.below (by repeat (first | with_reducible exact Below.refl _ _ | with_reducible apply below_alloc | with_reducible apply pw_below_drewN | with_reducible apply below_drew1))).a.li); (case aB => exact (HBc.out.below (by repeat (first | with_reducible exact Below.refl _ _ | with_reducible apply below_alloc | with_reducible apply pw_below_drewN | with_reducible apply below_drew1))).a.be); (case aS => exact (HBc.out.below (by repeat (first | with_reducible exact Below.refl _ _ | with_reducible apply below_alloc | with_reducible apply pw_below_drewN | with_reducible apply below_drew1))).a.be.size); (case aL => omega); intro vx wx ho hb hg hat; have HC := Aside0.mk ((HBc.out.below (by repeat (first | with_reducible exact Below.refl _ _ | with_reducible apply below_alloc | with_reducible apply pw_below_drewN | with_reducible apply below_drew1))).grow ho hb hg hat); clear ho hb hg hat HBc; obtain ⟨yb, hyb⟩ : ∃ y_, y_ = wd ++ [(x : Int)] := ⟨_, rfl⟩; rw [← hyb] at HC; have HY := Aside0.mk hyb; clear hyb; obtain ⟨Ax, cx, ex⟩ := Kd.R_slice HC.out.a.li; subst ex)
                        | ((with_reducible refine gate_builtin (b := .append) (xs := #[.tmp 55, .tmp 61]) rfl ?_); at_builtin; refine Kd.S_append (Kd.slice 3 (Kd.int .i64)) (w0 := w) w.heap.size rfl (.tmp 55) (.tmp 61) 22 23 (.slice none 0 0) 24 rfl Try.underlying22 info23 rfl (by decide) (by omega) (.slice A9 Y2.length c9) Y2 yb [.slice Ax yb.length cx] (fun k_ => some k_ ≠ (Value.slice (some ad7) X.length c7).ownBlock ∧ some k_ ≠ (Value.slice A6 O.length c6).ownBlock) (fun k_ => some k_ = (Value.slice Ax yb.length cx).ownBlock) rfl rfl ?aM ?aK ?aF ?aO ?aB ?aS ?aL ?_; (case aM => exact (HC.out.below (by repeat (first | with_reducible exact Below.refl _ _ | with_reducible apply below_alloc | with_reducible apply pw_below_drewN | with_reducible apply below_drew1))).a.mem); (case aK => exact (HC.out.below (by repeat (first | with_reducible exact Below.refl _ _ | with_reducible apply below_alloc | with_reducible apply pw_below_drewN | with_reducible apply below_drew1))).a.okY); (case aF => exact (HC.out.below (by repeat (first | with_reducible exact Below.refl _ _ | with_reducible apply below_alloc | with_reducible apply pw_below_drewN | with_reducible apply below_drew1))).a.freshY); (case aO => exact (HC.out.below (by repeat (first | with_reducible exact Below.refl _ _ | with_reducible apply below_alloc | with_reducible apply pw_below_drewN | with_reducible apply below_drew1))).a.y); (case aB => exact (HC.out.below (by repeat (first | with_reducible exact Below.refl _ _ | with_reducible apply below_alloc | with_reducible apply pw_below_drewN | with_reducible apply below_drew1))).a.be); (case aS => exact (HC.out.below (by repeat (first | with_reducible exact Below.refl _ _ | with_reducible apply below_alloc | with_reducible apply pw_below_drewN | with_reducible apply below_drew1))).a.be.size); (case aL => omega); intro vsc wsc ho hb hg hat; have HD := Aside0.mk ((HC.out.below (by repeat (first | with_reducible exact Below.refl _ _ | with_reducible apply below_alloc | with_reducible apply pw_below_drewN | with_reducible apply below_drew1))).doneY ho hb hg hat); clear ho hb hg hat HC))
                      go_roundw
                      case rel => exact ⟨x + 1, Y2 ++ [wd ++ [(x : Int)]], by go_num, by omega, by simp; omega, by simp; omega, ⟨(show AccW w _ w.heap.size #[.int .i64 Ln, .slice A0_1 l0_1.length c0_1, .slice A0_2 l0_2.length c0_2] (.slice A6 O.length c6) (.slice (some ad7) X.length c7) _ O X (Y2 ++ [wd ++ [(x : Int)]]) (.slice Aw wd.length cw) wd from by have h_ := HD.out; rw [HY.out] at h_; exact h_).below (by repeat (first | with_reducible exact Below.refl _ _ | with_reducible apply below_alloc | with_reducible apply pw_below_drewN | with_reducible apply below_drew1))⟩, HVY2, HQ⟩
                      case measure => simp [intOf]; omega
                    · obtain rfl : x = Ln := by omega
                      have hQ := HQ.out
                      rw [Nat.sub_self, kids, List.append_nil] at hQ
                      have HQ := Aside0.mk hQ
                      clear hQ
                      go_wp2
                      go_roundw
                      case rel => exact ⟨j + 1, O, Y2, by go_num, by omega, by assumption, by omega, by omega, ⟨HW.out.a.below (by repeat (first | with_reducible exact Below.refl _ _ | with_reducible apply below_alloc | with_reducible apply pw_below_drewN | with_reducible apply below_drew1))⟩, HVY, HQ⟩
                      case measure => simp [intOf]; omega
              · by_cases hm : st ∈ l0_2
                · skip
                  have HK2 : Aside0 (spec_l1Has.f K2 l0_2 st = some true) := ⟨by rw [HKm.out, decide_eq_true hm]⟩
                  have HQ : Aside0 (accA l0_1 l0_2 Ln (nn - k) (accB l0_1 l0_2 Ln (X.drop (j + 1)) O (Y ++ kids wd (Ln - 0) ((0 : Nat) : Int))) = r1) := ⟨by rw [← hQ, putO, if_neg (fun h_ => hO4 h_.1)]; rfl⟩
                  have d4 : decide ((O.length : Int) < 40) = false := decide_eq_false (by omega)
                  clear hQ hst HKm
                  go_wp2
                  refine start_ (n := 11) (S := fun w' => w'.cell? ⟨w.heap.size, 0, none⟩ = some (.int .i64 Ln) ∧ w'.cell? ⟨w.heap.size, 1, none⟩ = some (.slice A0_1 l0_1.length c0_1) ∧ w'.cell? ⟨w.heap.size, 2, none⟩ = some (.slice A0_2 l0_2.length c0_2)) (ds := []) #[false, false, false, false, false, false, false, false, false, false, false] (by kernel_rfl) rfl rfl ⟨(blk_cell HW.out.a.bk 0).trans rfl, (blk_cell HW.out.a.bk 1).trans rfl, (blk_cell HW.out.a.bk 2).trans rfl⟩ (fun hHeld => ?_)
                  refine Own.anew_ (wN := wr) (by repeat (first | with_reducible exact Below.refl _ _ | with_reducible apply below_alloc | with_reducible apply pw_below_drewN | with_reducible apply below_drew1)) hHeld (fun wa hb hHeld => ?_)
                  replace HW := Aside0.mk (HW.out.below hb)
                  clear hb
                  refine pure_ (i := 0) (N := some 33) (v := ?_) (a' := ?_) #[true, false, false, false, false, false, false, false, false, false, false] rfl rfl (by kernel_rfl) (fun _ _ _ h => h) (Or.inl ⟨by rfl, ?_⟩) ?_ ?_
                  rotate_left
                  · intro w'
                    go_simp
                    with_reducible rfl
                  rotate_left
                  · simp only [Act.put, List.setIfInBounds_toArray, List.set_cons_zero, List.set_cons_succ, i64_w, i32_w]
                    rfl
                  refine pure_ (i := 3) (N := some 36) (v := ?_) (a' := ?_) #[true, false, false, true, false, false, false, false, false, false, false] rfl rfl (by kernel_rfl) (fun _ _ _ h => h) (Or.inl ⟨by rfl, ?_⟩) ?_ ?_
                  rotate_left
                  · intro w'
                    go_simp
                    with_reducible rfl
                  rotate_left
                  · simp only [Act.put, List.setIfInBounds_toArray, List.set_cons_zero, List.set_cons_succ, i64_w, i32_w]
                    rfl
                  refine take_ (i := 1) (N := some 34) (v := ?_) (a' := ?_) #[true, true, false, true, false, false, false, false, false, false, false] rfl rfl (by kernel_rfl) (fun _ _ _ h => h) (Or.inl ⟨by rfl, ?_⟩) hHeld ?_ ?_
                  rotate_left
                  · rintro w' ⟨s0, s1, s2⟩
                    go_simp
                    with_reducible rfl
                  rotate_left
                  · simp only [Act.put, List.setIfInBounds_toArray, List.set_cons_zero, List.set_cons_succ, i64_w, i32_w]
                    rfl
                  refine take_ (i := 2) (N := some 35) (v := ?_) (a' := ?_) #[true, true, true, true, false, false, false, false, false, false, false] rfl rfl (by kernel_rfl) (fun _ _ _ h => h) (Or.inl ⟨by rfl, ?_⟩) hHeld ?_ ?_
                  rotate_left
                  · rintro w' ⟨s0, s1, s2⟩
                    go_simp
                    with_reducible rfl
                  rotate_left
                  · simp only [Act.put, List.setIfInBounds_toArray, List.set_cons_zero, List.set_cons_succ, i64_w, i32_w]
                    rfl
                  refine one_ (i := 4) (N := some 37) #[true, true, true, true, true, false, false, false, false, false, false] rfl rfl (by kernel_rfl) (by decide) (fun K hK => ?_)
                  refine goes_ Try.func46 (by kernel_rfl) rfl #[.agg #[.int .i64 Ln, .slice A0_1 l0_1.length c0_1, .slice A0_2 l0_2.length c0_2], .slice Aw wd.length cw] (by rfl) rfl rfl (by (try simp only [List.map_toArray, List.map_cons, List.map_nil]); first | done | rfl) ?_
                  with_reducible refine (spec_auRun.calls K1 _ _ _ l0_1 _ _ l0_2 _ _ wd st _ (Kd.C_below H1.out HW.out.a.be) HC1.out (Kd.C_below H2.out HW.out.a.be) HC2.out (Kd.R_reads' HW.out.cu).2.2 (Kd.R_reads' HW.out.cu).2.1 HK1.out).mono ?_
                  rintro e wb ⟨rfl, hb⟩
                  refine ⟨_, rfl, ?_⟩
                  replace HW := Aside0.mk (HW.out.below hb)
                  clear hb
                  refine hK.out _ _ ⟨(blk_cell HW.out.a.bk 0).trans rfl, (blk_cell HW.out.a.bk 1).trans rfl, (blk_cell HW.out.a.bk 2).trans rfl⟩ (fun hHeld => ?_)
                  clear hK K
                  refine norm_ (a' := ?_) ?_ ?_
                  rotate_left
                  · show Act.put _ (some 37) _ = _
                    simp only [Act.put, List.setIfInBounds_toArray, List.set_cons_zero, List.set_cons_succ, i64_w, i32_w]
                    rfl
                  refine one_ (i := 5) (N := some 38) #[true, true, true, true, true, true, false, false, false, false, false] rfl rfl (by kernel_rfl) (by decide) (fun K hK => ?_)
                  refine goes_ Try.func51 (by kernel_rfl) rfl #[.slice A0_2 l0_2.length c0_2, .int .i64 st] (by rfl) rfl rfl (by (try simp only [List.map_toArray, List.map_cons, List.map_nil]); first | done | rfl) ?_
                  with_reducible refine (spec_l1Has.calls K2 _ _ l0_2 st true _ (Kd.C_below H2.out HW.out.a.be) HC2.out HK2.out).mono ?_
                  rintro e wb ⟨rfl, ⟨nd, rfl⟩⟩
                  refine ⟨_, rfl, ?_⟩
                  replace HW := Aside0.mk (HW.out.below (by repeat (first | with_reducible exact Below.refl _ _ | with_reducible apply below_alloc | with_reducible apply pw_below_drewN | with_reducible apply below_drew1)))
                  refine hK.out _ _ ⟨(blk_cell HW.out.a.bk 0).trans rfl, (blk_cell HW.out.a.bk 1).trans rfl, (blk_cell HW.out.a.bk 2).trans rfl⟩ (fun hHeld => ?_)
                  clear hK K
                  refine norm_ (a' := ?_) ?_ ?_
                  rotate_left
                  · show Act.put _ (some 38) _ = _
                    simp only [Act.put, List.setIfInBounds_toArray, List.set_cons_zero, List.set_cons_succ, i64_w, i32_w]
                    rfl
                  refine pure_ (i := 6) (N := some 39) (v := ?_) (a' := ?_) #[true, true, true, true, true, true, true, false, false, false, false] rfl rfl (by kernel_rfl) (fun _ _ _ h => h) (Or.inl ⟨by rfl, ?_⟩) ?_ ?_
                  rotate_left
                  · intro w'
                    go_simp
                    with_reducible rfl
                  rotate_left
                  · simp only [Act.put, List.setIfInBounds_toArray, List.set_cons_zero, List.set_cons_succ, i64_w, i32_w]
                    rfl
                  refine pure_ (i := 7) (N := some 40) (v := ?_) (a' := ?_) #[true, true, true, true, true, true, true, true, false, false, false] rfl rfl (by kernel_rfl) (fun _ _ _ h => h) (Or.inl ⟨by rfl, ?_⟩) ?_ ?_
                  rotate_left
                  · intro w'
                    go_simp
                    with_reducible rfl
                  rotate_left
                  · simp only [Act.put, List.setIfInBounds_toArray, List.set_cons_zero, List.set_cons_succ, i64_w, i32_w]
                    rfl
                  refine pure_ (i := 8) (N := some 41) (v := ?_) (a' := ?_) #[true, true, true, true, true, true, true, true, true, false, false] rfl rfl (by kernel_rfl) (fun _ _ _ h => h) (Or.inl ⟨by rfl, ?_⟩) ?_ ?_
                  rotate_left
                  · intro w'
                    go_simp
                    with_reducible rfl
                  rotate_left
                  · simp only [Act.put, List.setIfInBounds_toArray, List.set_cons_zero, List.set_cons_succ, i64_w, i32_w]
                    rfl
                  refine pure_ (i := 9) (N := some 42) (v := ?_) (a' := ?_) #[true, true, true, true, true, true, true, true, true, true, false] rfl rfl (by kernel_rfl) (fun _ _ _ h => h) (Or.inl ⟨by rfl, ?_⟩) ?_ ?_
                  rotate_left
                  · intro w'
                    go_simp
                    with_reducible rfl
                  rotate_left
                  · simp only [Act.put, List.setIfInBounds_toArray, List.set_cons_zero, List.set_cons_succ, i64_w, i32_w]
                    rfl
                  refine pure_ (i := 10) (N := some 43) (v := ?_) (a' := ?_) #[true, true, true, true, true, true, true, true, true, true, true] rfl rfl (by kernel_rfl) (fun _ _ _ h => h) (Or.inl ⟨by rfl, ?_⟩) ?_ ?_
                  rotate_left
                  · intro w'
                    go_simp
                    with_reducible rfl
                  rotate_left
                  · simp only [Act.put, List.setIfInBounds_toArray, List.set_cons_zero, List.set_cons_succ, i64_w, i32_w]
                    rfl
                  refine done_ (by kernel_rfl) ?_
                  go_wp2
                  go_loopw [9, 12] (fun v9 v12 wr => ∃ (x : Nat) (Y2 : List (List Int)), v12 = .int .i64 x ∧ x ≤ Ln ∧ j + x ≤ Y2.length ∧ Y2.length ≤ 3 * j + x ∧ Aside0 (AccW w wr w.heap.size #[.int .i64 Ln, .slice A0_1 l0_1.length c0_1, .slice A0_2 l0_2.length c0_2] (.slice A6 O.length c6) (.slice (some ad7) X.length c7) v9 O X Y2 (.slice Aw wd.length cw) wd) ∧ Aside0 (∀ y ∈ Y2, VW (Ln : Int) (k + 1) y) ∧ Aside0 (accA l0_1 l0_2 Ln (nn - k) (accB l0_1 l0_2 Ln (X.drop (j + 1)) O (Y2 ++ kids wd (Ln - x) (x : Int))) = r1)) (fun _ x _ => Ln - (intOf x).toNat)
                  case atStart => exact ⟨0, Y, rfl, Nat.zero_le _, by omega, by omega, ⟨HW.out.below (by repeat (first | with_reducible exact Below.refl _ _ | with_reducible apply below_alloc | with_reducible apply pw_below_drewN | with_reducible apply below_drew1))⟩, HVY, HQ⟩
                  case round =>
                    clear HW HVY HQ
                    obtain ⟨x, Y2, rfl, hx, hl1, hl2, HW, HVY, HQ⟩ := hrel
                    obtain ⟨A9, c9, e9⟩ := Kd.S_slice HW.out.a.y
                    subst e9
                    have z0 : wr.cell? ⟨w.heap.size, 0, none⟩ = some (.int .i64 Ln) := (blk_cell HW.out.a.bk 0).trans rfl
                    by_cases hxl : x < Ln
                    · have hQ := HQ.out
                      rw [show Ln - x = (Ln - (x + 1)) + 1 by omega, kids] at hQ
                      have HQ : Aside0 (accA l0_1 l0_2 Ln (nn - k) (accB l0_1 l0_2 Ln (X.drop (j + 1)) O ((Y2 ++ [wd ++ [(x : Int)]]) ++ kids wd (Ln - (x + 1)) ((x + 1 : Nat) : Int))) = r1) := ⟨by rw [← hQ]; simp⟩
                      have HVY2 : Aside0 (∀ y ∈ Y2 ++ [wd ++ [(x : Int)]], VW (Ln : Int) (k + 1) y) := ⟨fun y hy => by
                        rcases List.mem_append.1 hy with hy | hy
                        · exact HVY.out y hy
                        · rw [List.mem_singleton.1 hy]
                          exact HVW.out.snoc (by omega)⟩
                      clear hQ HVY
                      go_wp2_with (first
                        | (go_at_call 57; (with_reducible refine (spec_l1Own.calls _ _ wd wd _ (Kd.R_reads' (HW.out.below (by repeat (first | with_reducible exact Below.refl _ _ | with_reducible apply below_alloc | with_reducible apply pw_below_drewN | with_reducible apply below_drew1))).cu).2.2 (Kd.R_reads' HW.out.cu).2.1 (l1Own wd (by omega))).mono ?_); rintro e wlc ⟨vlc, rfl, ho, hb⟩; have HBc := Aside0.mk ((HW.out.below (by repeat (first | with_reducible exact Below.refl _ _ | with_reducible apply below_alloc | with_reducible apply pw_below_drewN | with_reducible apply below_drew1))).lit ho hb); clear ho hb; obtain ⟨Alc, clc, elc⟩ := Kd.R_slice HBc.out.a.li; subst elc)
                        | ((with_reducible refine gate_builtin (b := .append) (xs := #[.tmp 57, .tmp 59]) rfl ?_); at_builtin; refine Kd.R_append (Kd.int .i64) (w0 := w) w.heap.size rfl (.tmp 57) (.tmp 59) 23 3 (.int .i64 0) 8 rfl Try.underlying23 info3 rfl (by decide) (by omega) (.slice Alc wd.length clc) wd (x : Int) [.int .i64 (x : Int)] (fun _ => True) (fun _ => False) rfl rfl ?aP (fun _ hk => hk.elim) (fun _ _ => trivial) ?aO ?aB ?aS ?aL ?_; (case aP => exact rfl); (case aO => exact (HBc.out.below (by repeat (first | with_reducible exact Below.refl _ _ | with_reducible apply below_alloc | with_reducible apply pw_below_drewN | with_reducible apply below_drew1))).a.li); (case aB => exact (HBc.out.below (by repeat (first | with_reducible exact Below.refl _ _ | with_reducible apply below_alloc | with_reducible apply pw_below_drewN | with_reducible apply below_drew1))).a.be); (case aS => exact (HBc.out.below (by repeat (first | with_reducible exact Below.refl _ _ | with_reducible apply below_alloc | with_reducible apply pw_below_drewN | with_reducible apply below_drew1))).a.be.size); (case aL => omega); intro vx wx ho hb hg hat; have HC := Aside0.mk ((HBc.out.below (by repeat (first | with_reducible exact Below.refl _ _ | with_reducible apply below_alloc | with_reducible apply pw_below_drewN | with_reducible apply below_drew1))).grow ho hb hg hat); clear ho hb hg hat HBc; obtain ⟨yb, hyb⟩ : ∃ y_, y_ = wd ++ [(x : Int)] := ⟨_, rfl⟩; rw [← hyb] at HC; have HY := Aside0.mk hyb; clear hyb; obtain ⟨Ax, cx, ex⟩ := Kd.R_slice HC.out.a.li; subst ex)
                        | ((with_reducible refine gate_builtin (b := .append) (xs := #[.tmp 55, .tmp 61]) rfl ?_); at_builtin; refine Kd.S_append (Kd.slice 3 (Kd.int .i64)) (w0 := w) w.heap.size rfl (.tmp 55) (.tmp 61) 22 23 (.slice none 0 0) 24 rfl Try.underlying22 info23 rfl (by decide) (by omega) (.slice A9 Y2.length c9) Y2 yb [.slice Ax yb.length cx] (fun k_ => some k_ ≠ (Value.slice (some ad7) X.length c7).ownBlock ∧ some k_ ≠ (Value.slice A6 O.length c6).ownBlock) (fun k_ => some k_ = (Value.slice Ax yb.length cx).ownBlock) rfl rfl ?aM ?aK ?aF ?aO ?aB ?aS ?aL ?_; (case aM => exact (HC.out.below (by repeat (first | with_reducible exact Below.refl _ _ | with_reducible apply below_alloc | with_reducible apply pw_below_drewN | with_reducible apply below_drew1))).a.mem); (case aK => exact (HC.out.below (by repeat (first | with_reducible exact Below.refl _ _ | with_reducible apply below_alloc | with_reducible apply pw_below_drewN | with_reducible apply below_drew1))).a.okY); (case aF => exact (HC.out.below (by repeat (first | with_reducible exact Below.refl _ _ | with_reducible apply below_alloc | with_reducible apply pw_below_drewN | with_reducible apply below_drew1))).a.freshY); (case aO => exact (HC.out.below (by repeat (first | with_reducible exact Below.refl _ _ | with_reducible apply below_alloc | with_reducible apply pw_below_drewN | with_reducible apply below_drew1))).a.y); (case aB => exact (HC.out.below (by repeat (first | with_reducible exact Below.refl _ _ | with_reducible apply below_alloc | with_reducible apply pw_below_drewN | with_reducible apply below_drew1))).a.be); (case aS => exact (HC.out.below (by repeat (first | with_reducible exact Below.refl _ _ | with_reducible apply below_alloc | with_reducible apply pw_below_drewN | with_reducible apply below_drew1))).a.be.size); (case aL => omega); intro vsc wsc ho hb hg hat; have HD := Aside0.mk ((HC.out.below (by repeat (first | with_reducible exact Below.refl _ _ | with_reducible apply below_alloc | with_reducible apply pw_below_drewN | with_reducible apply below_drew1))).doneY ho hb hg hat); clear ho hb hg hat HC))
                      go_roundw
                      case rel => exact ⟨x + 1, Y2 ++ [wd ++ [(x : Int)]], by go_num, by omega, by simp; omega, by simp; omega, ⟨(show AccW w _ w.heap.size #[.int .i64 Ln, .slice A0_1 l0_1.length c0_1, .slice A0_2 l0_2.length c0_2] (.slice A6 O.length c6) (.slice (some ad7) X.length c7) _ O X (Y2 ++ [wd ++ [(x : Int)]]) (.slice Aw wd.length cw) wd from by have h_ := HD.out; rw [HY.out] at h_; exact h_).below (by repeat (first | with_reducible exact Below.refl _ _ | with_reducible apply below_alloc | with_reducible apply pw_below_drewN | with_reducible apply below_drew1))⟩, HVY2, HQ⟩
                      case measure => simp [intOf]; omega
                    · obtain rfl : x = Ln := by omega
                      have hQ := HQ.out
                      rw [Nat.sub_self, kids, List.append_nil] at hQ
                      have HQ := Aside0.mk hQ
                      clear hQ
                      go_wp2
                      go_roundw
                      case rel => exact ⟨j + 1, O, Y2, by go_num, by omega, by assumption, by omega, by omega, ⟨HW.out.a.below (by repeat (first | with_reducible exact Below.refl _ _ | with_reducible apply below_alloc | with_reducible apply pw_below_drewN | with_reducible apply below_drew1))⟩, HVY, HQ⟩
                      case measure => simp [intOf]; omega
                · skip
                  have HK2 : Aside0 (spec_l1Has.f K2 l0_2 st = some false) := ⟨by rw [HKm.out, decide_eq_false hm]⟩
                  have HQ : Aside0 (accA l0_1 l0_2 Ln (nn - k) (accB l0_1 l0_2 Ln (X.drop (j + 1)) O (Y ++ kids wd (Ln - 0) ((0 : Nat) : Int))) = r1) := ⟨by rw [← hQ, putO, if_neg (fun h_ => hO4 h_.1)]; rfl⟩
                  have d4 : decide ((O.length : Int) < 40) = false := decide_eq_false (by omega)
                  clear hQ hst HKm
                  go_wp2
                  refine start_ (n := 11) (S := fun w' => w'.cell? ⟨w.heap.size, 0, none⟩ = some (.int .i64 Ln) ∧ w'.cell? ⟨w.heap.size, 1, none⟩ = some (.slice A0_1 l0_1.length c0_1) ∧ w'.cell? ⟨w.heap.size, 2, none⟩ = some (.slice A0_2 l0_2.length c0_2)) (ds := []) #[false, false, false, false, false, false, false, false, false, false, false] (by kernel_rfl) rfl rfl ⟨(blk_cell HW.out.a.bk 0).trans rfl, (blk_cell HW.out.a.bk 1).trans rfl, (blk_cell HW.out.a.bk 2).trans rfl⟩ (fun hHeld => ?_)
                  refine Own.anew_ (wN := wr) (by repeat (first | with_reducible exact Below.refl _ _ | with_reducible apply below_alloc | with_reducible apply pw_below_drewN | with_reducible apply below_drew1)) hHeld (fun wa hb hHeld => ?_)
                  replace HW := Aside0.mk (HW.out.below hb)
                  clear hb
                  refine pure_ (i := 0) (N := some 33) (v := ?_) (a' := ?_) #[true, false, false, false, false, false, false, false, false, false, false] rfl rfl (by kernel_rfl) (fun _ _ _ h => h) (Or.inl ⟨by rfl, ?_⟩) ?_ ?_
                  rotate_left
                  · intro w'
                    go_simp
                    with_reducible rfl
                  rotate_left
                  · simp only [Act.put, List.setIfInBounds_toArray, List.set_cons_zero, List.set_cons_succ, i64_w, i32_w]
                    rfl
                  refine pure_ (i := 3) (N := some 36) (v := ?_) (a' := ?_) #[true, false, false, true, false, false, false, false, false, false, false] rfl rfl (by kernel_rfl) (fun _ _ _ h => h) (Or.inl ⟨by rfl, ?_⟩) ?_ ?_
                  rotate_left
                  · intro w'
                    go_simp
                    with_reducible rfl
                  rotate_left
                  · simp only [Act.put, List.setIfInBounds_toArray, List.set_cons_zero, List.set_cons_succ, i64_w, i32_w]
                    rfl
                  refine take_ (i := 1) (N := some 34) (v := ?_) (a' := ?_) #[true, true, false, true, false, false, false, false, false, false, false] rfl rfl (by kernel_rfl) (fun _ _ _ h => h) (Or.inl ⟨by rfl, ?_⟩) hHeld ?_ ?_
                  rotate_left
                  · rintro w' ⟨s0, s1, s2⟩
                    go_simp
                    with_reducible rfl
                  rotate_left
                  · simp only [Act.put, List.setIfInBounds_toArray, List.set_cons_zero, List.set_cons_succ, i64_w, i32_w]
                    rfl
                  refine take_ (i := 2) (N := some 35) (v := ?_) (a' := ?_) #[true, true, true, true, false, false, false, false, false, false, false] rfl rfl (by kernel_rfl) (fun _ _ _ h => h) (Or.inl ⟨by rfl, ?_⟩) hHeld ?_ ?_
                  rotate_left
                  · rintro w' ⟨s0, s1, s2⟩
                    go_simp
                    with_reducible rfl
                  rotate_left
                  · simp only [Act.put, List.setIfInBounds_toArray, List.set_cons_zero, List.set_cons_succ, i64_w, i32_w]
                    rfl
                  refine one_ (i := 4) (N := some 37) #[true, true, true, true, true, false, false, false, false, false, false] rfl rfl (by kernel_rfl) (by decide) (fun K hK => ?_)
                  refine goes_ Try.func46 (by kernel_rfl) rfl #[.agg #[.int .i64 Ln, .slice A0_1 l0_1.length c0_1, .slice A0_2 l0_2.length c0_2], .slice Aw wd.length cw] (by rfl) rfl rfl (by (try simp only [List.map_toArray, List.map_cons, List.map_nil]); first | done | rfl) ?_
                  with_reducible refine (spec_auRun.calls K1 _ _ _ l0_1 _ _ l0_2 _ _ wd st _ (Kd.C_below H1.out HW.out.a.be) HC1.out (Kd.C_below H2.out HW.out.a.be) HC2.out (Kd.R_reads' HW.out.cu).2.2 (Kd.R_reads' HW.out.cu).2.1 HK1.out).mono ?_
                  rintro e wb ⟨rfl, hb⟩
                  refine ⟨_, rfl, ?_⟩
                  replace HW := Aside0.mk (HW.out.below hb)
                  clear hb
                  refine hK.out _ _ ⟨(blk_cell HW.out.a.bk 0).trans rfl, (blk_cell HW.out.a.bk 1).trans rfl, (blk_cell HW.out.a.bk 2).trans rfl⟩ (fun hHeld => ?_)
                  clear hK K
                  refine norm_ (a' := ?_) ?_ ?_
                  rotate_left
                  · show Act.put _ (some 37) _ = _
                    simp only [Act.put, List.setIfInBounds_toArray, List.set_cons_zero, List.set_cons_succ, i64_w, i32_w]
                    rfl
                  refine one_ (i := 5) (N := some 38) #[true, true, true, true, true, true, false, false, false, false, false] rfl rfl (by kernel_rfl) (by decide) (fun K hK => ?_)
                  refine goes_ Try.func51 (by kernel_rfl) rfl #[.slice A0_2 l0_2.length c0_2, .int .i64 st] (by rfl) rfl rfl (by (try simp only [List.map_toArray, List.map_cons, List.map_nil]); first | done | rfl) ?_
                  with_reducible refine (spec_l1Has.calls K2 _ _ l0_2 st false _ (Kd.C_below H2.out HW.out.a.be) HC2.out HK2.out).mono ?_
                  rintro e wb ⟨rfl, ⟨nd, rfl⟩⟩
                  refine ⟨_, rfl, ?_⟩
                  replace HW := Aside0.mk (HW.out.below (by repeat (first | with_reducible exact Below.refl _ _ | with_reducible apply below_alloc | with_reducible apply pw_below_drewN | with_reducible apply below_drew1)))
                  refine hK.out _ _ ⟨(blk_cell HW.out.a.bk 0).trans rfl, (blk_cell HW.out.a.bk 1).trans rfl, (blk_cell HW.out.a.bk 2).trans rfl⟩ (fun hHeld => ?_)
                  clear hK K
                  refine norm_ (a' := ?_) ?_ ?_
                  rotate_left
                  · show Act.put _ (some 38) _ = _
                    simp only [Act.put, List.setIfInBounds_toArray, List.set_cons_zero, List.set_cons_succ, i64_w, i32_w]
                    rfl
                  refine pure_ (i := 6) (N := some 39) (v := ?_) (a' := ?_) #[true, true, true, true, true, true, true, false, false, false, false] rfl rfl (by kernel_rfl) (fun _ _ _ h => h) (Or.inl ⟨by rfl, ?_⟩) ?_ ?_
                  rotate_left
                  · intro w'
                    go_simp
                    with_reducible rfl
                  rotate_left
                  · simp only [Act.put, List.setIfInBounds_toArray, List.set_cons_zero, List.set_cons_succ, i64_w, i32_w]
                    rfl
                  refine pure_ (i := 7) (N := some 40) (v := undef) (a' := ?_) #[true, true, true, true, true, true, true, true, false, false, false] rfl rfl (by kernel_rfl) (fun _ _ _ h => h) (Or.inr ⟨by rfl, rfl⟩) ?_ ?_
                  rotate_left
                  · simp only [Act.put, List.setIfInBounds_toArray, List.set_cons_zero, List.set_cons_succ, i64_w, i32_w]
                    rfl
                  refine pure_ (i := 8) (N := some 41) (v := undef) (a' := ?_) #[true, true, true, true, true, true, true, true, true, false, false] rfl rfl (by kernel_rfl) (fun _ _ _ h => h) (Or.inr ⟨by rfl, rfl⟩) ?_ ?_
                  rotate_left
                  · simp only [Act.put, List.setIfInBounds_toArray, List.set_cons_zero, List.set_cons_succ, i64_w, i32_w]
                    rfl
                  refine pure_ (i := 9) (N := some 42) (v := undef) (a' := ?_) #[true, true, true, true, true, true, true, true, true, true, false] rfl rfl (by kernel_rfl) (fun _ _ _ h => h) (Or.inr ⟨by rfl, rfl⟩) ?_ ?_
                  rotate_left
                  · simp only [Act.put, List.setIfInBounds_toArray, List.set_cons_zero, List.set_cons_succ, i64_w, i32_w]
                    rfl
                  refine pure_ (i := 10) (N := some 43) (v := ?_) (a' := ?_) #[true, true, true, true, true, true, true, true, true, true, true] rfl rfl (by kernel_rfl) (fun _ _ _ h => h) (Or.inl ⟨by rfl, ?_⟩) ?_ ?_
                  rotate_left
                  · intro w'
                    go_simp
                    with_reducible rfl
                  rotate_left
                  · simp only [Act.put, List.setIfInBounds_toArray, List.set_cons_zero, List.set_cons_succ, i64_w, i32_w]
                    rfl
                  refine done_ (by kernel_rfl) ?_
                  go_wp2
                  go_loopw [9, 12] (fun v9 v12 wr => ∃ (x : Nat) (Y2 : List (List Int)), v12 = .int .i64 x ∧ x ≤ Ln ∧ j + x ≤ Y2.length ∧ Y2.length ≤ 3 * j + x ∧ Aside0 (AccW w wr w.heap.size #[.int .i64 Ln, .slice A0_1 l0_1.length c0_1, .slice A0_2 l0_2.length c0_2] (.slice A6 O.length c6) (.slice (some ad7) X.length c7) v9 O X Y2 (.slice Aw wd.length cw) wd) ∧ Aside0 (∀ y ∈ Y2, VW (Ln : Int) (k + 1) y) ∧ Aside0 (accA l0_1 l0_2 Ln (nn - k) (accB l0_1 l0_2 Ln (X.drop (j + 1)) O (Y2 ++ kids wd (Ln - x) (x : Int))) = r1)) (fun _ x _ => Ln - (intOf x).toNat)
                  case atStart => exact ⟨0, Y, rfl, Nat.zero_le _, by omega, by omega, ⟨HW.out.below (by repeat (first | with_reducible exact Below.refl _ _ | with_reducible apply below_alloc | with_reducible apply pw_below_drewN | with_reducible apply below_drew1))⟩, HVY, HQ⟩
                  case round =>
                    clear HW HVY HQ
                    obtain ⟨x, Y2, rfl, hx, hl1, hl2, HW, HVY, HQ⟩ := hrel
                    obtain ⟨A9, c9, e9⟩ := Kd.S_slice HW.out.a.y
                    subst e9
                    have z0 : wr.cell? ⟨w.heap.size, 0, none⟩ = some (.int .i64 Ln) := (blk_cell HW.out.a.bk 0).trans rfl
                    by_cases hxl : x < Ln
                    · have hQ := HQ.out
                      rw [show Ln - x = (Ln - (x + 1)) + 1 by omega, kids] at hQ
                      have HQ : Aside0 (accA l0_1 l0_2 Ln (nn - k) (accB l0_1 l0_2 Ln (X.drop (j + 1)) O ((Y2 ++ [wd ++ [(x : Int)]]) ++ kids wd (Ln - (x + 1)) ((x + 1 : Nat) : Int))) = r1) := ⟨by rw [← hQ]; simp⟩
                      have HVY2 : Aside0 (∀ y ∈ Y2 ++ [wd ++ [(x : Int)]], VW (Ln : Int) (k + 1) y) := ⟨fun y hy => by
                        rcases List.mem_append.1 hy with hy | hy
                        · exact HVY.out y hy
                        · rw [List.mem_singleton.1 hy]
                          exact HVW.out.snoc (by omega)⟩
                      clear hQ HVY
                      go_wp2_with (first
                        | (go_at_call 57; (with_reducible refine (spec_l1Own.calls _ _ wd wd _ (Kd.R_reads' (HW.out.below (by repeat (first | with_reducible exact Below.refl _ _ | with_reducible apply below_alloc | with_reducible apply pw_below_drewN | with_reducible apply below_drew1))).cu).2.2 (Kd.R_reads' HW.out.cu).2.1 (l1Own wd (by omega))).mono ?_); rintro e wlc ⟨vlc, rfl, ho, hb⟩; have HBc := Aside0.mk ((HW.out.below (by repeat (first | with_reducible exact Below.refl _ _ | with_reducible apply below_alloc | with_reducible apply pw_below_drewN | with_reducible apply below_drew1))).lit ho hb); clear ho hb; obtain ⟨Alc, clc, elc⟩ := Kd.R_slice HBc.out.a.li; subst elc)
                        | ((with_reducible refine gate_builtin (b := .append) (xs := #[.tmp 57, .tmp 59]) rfl ?_); at_builtin; refine Kd.R_append (Kd.int .i64) (w0 := w) w.heap.size rfl (.tmp 57) (.tmp 59) 23 3 (.int .i64 0) 8 rfl Try.underlying23 info3 rfl (by decide) (by omega) (.slice Alc wd.length clc) wd (x : Int) [.int .i64 (x : Int)] (fun _ => True) (fun _ => False) rfl rfl ?aP (fun _ hk => hk.elim) (fun _ _ => trivial) ?aO ?aB ?aS ?aL ?_; (case aP => exact rfl); (case aO => exact (HBc.out.below (by repeat (first | with_reducible exact Below.refl _ _ | with_reducible apply below_alloc | with_reducible apply pw_below_drewN | with_reducible apply below_drew1))).a.li); (case aB => exact (HBc.out.below (by repeat (first | with_reducible exact Below.refl _ _ | with_reducible apply below_alloc | with_reducible apply pw_below_drewN | with_reducible apply below_drew1))).a.be); (case aS => exact (HBc.out.below (by repeat (first | with_reducible exact Below.refl _ _ | with_reducible apply below_alloc | with_reducible apply pw_below_drewN | with_reducible apply below_drew1))).a.be.size); (case aL => omega); intro vx wx ho hb hg hat; have HC := Aside0.mk ((HBc.out.below (by repeat (first | with_reducible exact Below.refl _ _ | with_reducible apply below_alloc | with_reducible apply pw_below_drewN | with_reducible apply below_drew1))).grow ho hb hg hat); clear ho hb hg hat HBc; obtain ⟨yb, hyb⟩ : ∃ y_, y_ = wd ++ [(x : Int)] := ⟨_, rfl⟩; rw [← hyb] at HC; have HY := Aside0.mk hyb; clear hyb; obtain ⟨Ax, cx, ex⟩ := Kd.R_slice HC.out.a.li; subst ex)
                        | ((with_reducible refine gate_builtin (b := .append) (xs := #[.tmp 55, .tmp 61]) rfl ?_); at_builtin; refine Kd.S_append (Kd.slice 3 (Kd.int .i64)) (w0 := w) w.heap.size rfl (.tmp 55) (.tmp 61) 22 23 (.slice none 0 0) 24 rfl Try.underlying22 info23 rfl (by decide) (by omega) (.slice A9 Y2.length c9) Y2 yb [.slice Ax yb.length cx] (fun k_ => some k_ ≠ (Value.slice (some ad7) X.length c7).ownBlock ∧ some k_ ≠ (Value.slice A6 O.length c6).ownBlock) (fun k_ => some k_ = (Value.slice Ax yb.length cx).ownBlock) rfl rfl ?aM ?aK ?aF ?aO ?aB ?aS ?aL ?_; (case aM => exact (HC.out.below (by repeat (first | with_reducible exact Below.refl _ _ | with_reducible apply below_alloc | with_reducible apply pw_below_drewN | with_reducible apply below_drew1))).a.mem); (case aK => exact (HC.out.below (by repeat (first | with_reducible exact Below.refl _ _ | with_reducible apply below_alloc | with_reducible apply pw_below_drewN | with_reducible apply below_drew1))).a.okY); (case aF => exact (HC.out.below (by repeat (first | with_reducible exact Below.refl _ _ | with_reducible apply below_alloc | with_reducible apply pw_below_drewN | with_reducible apply below_drew1))).a.freshY); (case aO => exact (HC.out.below (by repeat (first | with_reducible exact Below.refl _ _ | with_reducible apply below_alloc | with_reducible apply pw_below_drewN | with_reducible apply below_drew1))).a.y); (case aB => exact (HC.out.below (by repeat (first | with_reducible exact Below.refl _ _ | with_reducible apply below_alloc | with_reducible apply pw_below_drewN | with_reducible apply below_drew1))).a.be); (case aS => exact (HC.out.below (by repeat (first | with_reducible exact Below.refl _ _ | with_reducible apply below_alloc | with_reducible apply pw_below_drewN | with_reducible apply below_drew1))).a.be.size); (case aL => omega); intro vsc wsc ho hb hg hat; have HD := Aside0.mk ((HC.out.below (by repeat (first | with_reducible exact Below.refl _ _ | with_reducible apply below_alloc | with_reducible apply pw_below_drewN | with_reducible apply below_drew1))).doneY ho hb hg hat); clear ho hb hg hat HC))
                      go_roundw
                      case rel => exact ⟨x + 1, Y2 ++ [wd ++ [(x : Int)]], by go_num, by omega, by simp; omega, by simp; omega, ⟨(show AccW w _ w.heap.size #[.int .i64 Ln, .slice A0_1 l0_1.length c0_1, .slice A0_2 l0_2.length c0_2] (.slice A6 O.length c6) (.slice (some ad7) X.length c7) _ O X (Y2 ++ [wd ++ [(x : Int)]]) (.slice Aw wd.length cw) wd from by have h_ := HD.out; rw [HY.out] at h_; exact h_).below (by repeat (first | with_reducible exact Below.refl _ _ | with_reducible apply below_alloc | with_reducible apply pw_below_drewN | with_reducible apply below_drew1))⟩, HVY2, HQ⟩
                      case measure => simp [intOf]; omega
                    · obtain rfl : x = Ln := by omega
                      have hQ := HQ.out
                      rw [Nat.sub_self, kids, List.append_nil] at hQ
                      have HQ := Aside0.mk hQ
                      clear hQ
                      go_wp2
                      go_roundw
                      case rel => exact ⟨j + 1, O, Y2, by go_num, by omega, by assumption, by omega, by omega, ⟨HW.out.a.below (by repeat (first | with_reducible exact Below.refl _ _ | with_reducible apply below_alloc | with_reducible apply pw_below_drewN | with_reducible apply below_drew1))⟩, HVY, HQ⟩
                      case measure => simp [intOf]; omega
            · obtain rfl : j = X.length := by omega
              have hQ := HQ.out
              rw [List.drop_length, accB] at hQ
              have HQ := Aside0.mk hQ
              have HT := Aside0.mk HS.out.turn
              clear hQ HS
              have HY3 : Aside0 (Y.length ≤ 3 ^ (k + 1)) := ⟨by have h_ := HX3.out; rw [Nat.pow_succ]; omega⟩
              go_wp2
              go_roundw
              case rel => exact ⟨k + 1, O, Y, by go_num, by omega, by omega, hO, HY3, ⟨HT.out.below (by repeat (first | with_reducible exact Below.refl _ _ | with_reducible apply below_alloc | with_reducible apply pw_below_drewN | with_reducible apply below_drew1))⟩, HVY, ⟨by rw [show nn + 1 - (k + 1) = nn - k by omega]; exact HQ.out⟩⟩
              case measure => simp [intOf]; omega
        · obtain rfl : k = nn + 1 := by omega
          have hQ := HQ.out
          rw [Nat.sub_self, accA] at hQ
          simp only at hQ
          subst hQ
          clear HQ
          go_wp2_with fail
          go_ret2
          exact ⟨_, rfl, Kd.S_mono HS.out.o (fun _ _ => trivial), HS.out.be⟩
    · rw [if_neg (fun h_ => hn h_.2)] at h
      simp only [Prod.mk.injEq] at h
      obtain ⟨rfl, rfl⟩ := h
      have HIN : Aside0 (spec_l1In.f a1 0 6 = some false) := ⟨by rw [in_f, decide_eq_false hn]⟩
      go_enter Try.func29, Try.ntmps29
      go_wp2_with fail
      refine (spec_auGood.calls K _ _ _ _ _ _ _ true _ (Kd.C_below H1.out HB0.out) HC1.out (Kd.C_below H2.out HB0.out) HC2.out HK2.out).mono ?_
      rintro e w1 ⟨rfl, hb⟩
      have HB1 := Aside0.mk (below_step HB0.out hb)
      have BK1 := Aside0.mk (blk_below BK0.out hb)
      clear hb HB0 BK0 HK2
      go_wp2_with fail
      refine (spec_l1In.calls _ 0 6 false _ HIN.out).mono ?_
      rintro e w2_ ⟨rfl, ⟨nd1, rfl⟩⟩
      go_wp2_with fail
      go_ret2
      exact ⟨_, rfl, Kd.S_nil _ _ _ _ _, below_step HB1.out (by repeat (first | with_reducible exact Below.refl _ _ | with_reducible apply below_alloc | with_reducible apply pw_below_drewN | with_reducible apply below_drew1))⟩
  · rw [if_neg (fun h_ => hA h_.1)] at h
    simp only [Prod.mk.injEq] at h
    obtain ⟨rfl, rfl⟩ := h
    have HK2 : Aside0 (spec_auGood.f K a0_0 l0_1 l0_2 = some false) := ⟨by rw [HK.out, decide_eq_false hA]⟩
    clear HK
    go_enter Try.func29, Try.ntmps29
    go_wp2_with fail
    refine (spec_auGood.calls K _ _ _ _ _ _ _ false _ (Kd.C_below H1.out HB0.out) HC1.out (Kd.C_below H2.out HB0.out) HC2.out HK2.out).mono ?_
    rintro e w1 ⟨rfl, hb⟩
    have HB1 := Aside0.mk (below_step HB0.out hb)
    have BK1 := Aside0.mk (blk_below BK0.out hb)
    clear hb HB0 BK0 HK2
    go_wp2_with fail
    go_ret2
    exact ⟨_, rfl, Kd.S_nil _ _ _ _ _, HB1.out⟩
end Go.Proofs.Ytkfedkckakegjaa.P
