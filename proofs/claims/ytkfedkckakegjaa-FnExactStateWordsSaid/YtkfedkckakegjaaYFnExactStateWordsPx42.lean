/- The walk of the program's StateWords: for each state that the search finds, in the order of the states, its word; no two words share memory. -/
import Derived.Test.YtkfedkckakegjaaYFnExactStateWordsPx19
import Derived.Test.YtkfedkckakegjaaYFnExactStateWordsPx18
import Derived.Test.YtkfedkckakegjaaYFnExactStateWordsVFirst
import Derived.Test.YtkfedkckakegjaaYFnExactStateWordsAHits
import Derived.Test.YtkfedkckakegjaaOwnSel
namespace Go.Proofs.Ytkfedkckakegjaa.P
open Go.RowKit Go.Proofs.YtkfedkckakegjaaW.PrintWords Go.Proofs.YtkfedkckakegjaaW.PrintLast Go.Proofs.YtkfedkckakegjaaW.PrintMore Go.Proofs.Ytkfedkckakegjaa.Own Go.Proofs.Ytkfedkckakegjaa.A
set_option linter.unusedVariables false
set_option linter.unusedSimpArgs false
/-! ### impl_StateWords: function 35 -/
def impl_StateWords.f (k : Nat) (L : Int) (N : List (List Int)) (F : List Int) : Option (List (List Int) × Bool) := if AuSmall N F then some (if AuOk L N F then (allHits (bfsA N).1 (bfsA N).2 (iota 0 N.length), true) else ([], false)) else none
set_option maxHeartbeats 4000000 in
set_option maxRecDepth 100000 in
theorem impl_StateWords.calls (k : Nat) (a0_0 : Int) (A0_1 : Option Addr) (c0_1 : Nat) (l0_1 : List (List Int)) (A0_2 : Option Addr) (c0_2 : Nat) (l0_2 : List Int) (r1 : List (List Int)) (r2 : Bool) (w : World) (hr0_1 : Kd.C (Kd.slice 3 (Kd.int .i64)) w A0_1 l0_1.length l0_1) (hc0_1 : l0_1.length ≤ c0_1) (hr0_2 : Kd.C (Kd.int .i64) w A0_2 l0_2.length l0_2) (hc0_2 : l0_2.length ≤ c0_2) (h : impl_StateWords.f k a0_0 l0_1 l0_2 = some (r1, r2)) :
    Calls Try.prog 35 #[.agg #[.int .i64 a0_0, .slice A0_1 l0_1.length c0_1, .slice A0_2 l0_2.length c0_2]] w fun e w' => ∃ v0_ : Value, e = .returned (.tuple #[v0_, .bool r2]) ∧ Kd.S (Kd.slice 3 (Kd.int .i64)) 23 w' w.heap.size (fun _ => True) v0_ r1 ∧ Below w.heap.size w w' := by
  have hu29 := Try.underlying29
  unfold impl_StateWords.f at h
  by_cases hsm : AuSmall l0_1 l0_2
  case neg => rw [if_neg hsm] at h; simp at h
  rw [if_pos hsm] at h
  replace h := Option.some.inj h
  have H1 := Aside0.mk hr0_1
  have H2 := Aside0.mk hr0_2
  have HC1 := Aside0.mk hc0_1
  have HC2 := Aside0.mk hc0_2
  have HB0 : Aside0 (Below w.heap.size w (w.alloc (.cells #[.int .i64 a0_0, .slice A0_1 l0_1.length c0_1, .slice A0_2 l0_2.length c0_2] 29))) := ⟨below_alloc (Below.refl _ _) _⟩
  have BK0 := Aside0.mk (blk_new w (.cells #[.int .i64 a0_0, .slice A0_1 l0_1.length c0_1, .slice A0_2 l0_2.length c0_2] 29))
  obtain ⟨K, hK⟩ := isAu a0_0 l0_1 l0_2 (by simp only [maxLen]; have := hsm.1; omega) (fun x hx => by have := hsm.2.1 x hx; simp only [maxLen]; omega) (by have := hsm.2.2; simp only [maxLen]; omega)
  have HK : Aside0 (impl_IsAutomaton.f K a0_0 l0_1 l0_2 = some (decide (AuOk a0_0 l0_1 l0_2))) := ⟨hK K (Nat.le_refl _)⟩
  clear hr0_1 hc0_1 hr0_2 hc0_2 hK hsm
  by_cases hA : AuOk a0_0 l0_1 l0_2
  · rw [if_pos hA] at h
    have HA := Aside0.mk hA
    have HK2 : Aside0 (impl_IsAutomaton.f K a0_0 l0_1 l0_2 = some true) := ⟨by rw [HK.out, decide_eq_true hA]⟩
    simp only [Prod.mk.injEq] at h
    obtain ⟨hr, rfl⟩ := h
    have hw := bfsA_word hA
    have hb0 := (bfsA_end hA).1
    have hn12 : l0_1.length ≤ 12 := by have := hA.2.1; omega
    obtain ⟨S, hSe⟩ : ∃ S, S = (bfsA l0_1).1 := ⟨_, rfl⟩
    obtain ⟨X, hXe⟩ : ∃ X, X = (bfsA l0_1).2 := ⟨_, rfl⟩
    have HSE := Aside0.mk hSe
    have HXE := Aside0.mk hXe
    have hlS : X.length = S.length := by rw [hSe, hXe]; exact hw.2.1
    have hS12 : S.length ≤ 12 := by rw [hSe]; exact hw.1
    have hS1 : 1 ≤ S.length := by
      rw [hSe]
      have := (List.getElem?_eq_some_iff.1 hb0.start).1
      omega
    have HND : Aside0 S.Nodup := ⟨by rw [hSe]; exact hb0.nodup⟩
    have HR : Aside0 (allHits S X (iota 0 l0_1.length) = r1) := ⟨by rw [hSe, hXe]; exact hr⟩
    clear hA HK hw hb0 hSe hXe hr
    go_enter Try.func35, Try.ntmps35
    go_wp2_with fail
    refine (impl_IsAutomaton.calls K _ _ _ _ _ _ _ true _ (Kd.C_below H1.out HB0.out) HC1.out (Kd.C_below H2.out HB0.out) HC2.out HK2.out).mono ?_
    rintro e w1 ⟨rfl, hb⟩
    have HB1 := Aside0.mk (below_step HB0.out hb)
    have BK1 := Aside0.mk (blk_below BK0.out hb)
    have z0 : w1.cell? ⟨w.heap.size, 0, none⟩ = some (.int .i64 a0_0) := (blk_cell BK1.out 0).trans rfl
    have z1 : w1.cell? ⟨w.heap.size, 1, none⟩ = some (.slice A0_1 l0_1.length c0_1) := (blk_cell BK1.out 1).trans rfl
    have z2 : w1.cell? ⟨w.heap.size, 2, none⟩ = some (.slice A0_2 l0_2.length c0_2) := (blk_cell BK1.out 2).trans rfl
    clear hb HB0 BK0 HK2
    go_wp2_with fail
    refine (firstWords_own a0_0 _ _ l0_1 _ _ l0_2 _ (Kd.C_below H1.out HB1.out) HC1.out (Kd.C_below H2.out HB1.out) HC2.out HA.out).mono ?_
    rintro e w2 ⟨v4, v5, rfl, hR, hS, hb⟩
    rw [← HSE.out] at hR
    rw [← HXE.out] at hS
    obtain ⟨A4, c4, e4⟩ := Kd.R_slice hR
    subst e4
    obtain ⟨A5, c5, e5⟩ := Kd.S_slice hS
    subst e5
    obtain ⟨ad5, _, _, ea5, -⟩ := at_L1 (Kd.S_reads' hS).2.2 (0 : Int) (by omega) (by omega)
    subst ea5
    have HR2 := Aside0.mk (Kd.R_lower hR HB1.out.size)
    have HB2 := Aside0.mk (below_step HB1.out hb)
    have BK2 := Aside0.mk (blk_below BK1.out hb)
    obtain ⟨f, hf⟩ := Kd.S_lower hS HB1.out.size
    have HF := Aside0.mk hf
    have y1 : w2.cell? ⟨w.heap.size, 1, none⟩ = some (.slice A0_1 l0_1.length c0_1) := (blk_cell BK2.out 1).trans rfl
    clear hb hR hS hf HB1 BK1 z0 z1 z2
    go_wp2_with (first
      | ((with_reducible refine gate_dst (N := 17) rfl ?_); refine Kd.S_lits (Kd.slice 3 (Kd.int .i64)) (w0 := w) w.heap.size 23 rfl (N := 17) rfl (xs := ([] : List (List Int))) (inner := []) (ok := fun k => w2.heap.size ≤ k ∨ f k ∈ ([] : List Nat)) (fun j k => False) ?h1 ?h2 ?h3 ?h4 ?h5 ?h6 ?h7 ?h8 ?h9 ?_; (case h1 => first | (go_simp; done) | (go_simp; rfl)); (case h2 => exact rfl); (case h3 => exact (fun j x h => by simp at h)); (case h4 => exact (fun i j k h1 h2 => h1.elim)); (case h5 => exact (fun j k h1 => h1.elim)); (case h6 => exact (.inl (Nat.le_refl _))); (case h7 => exact HB2.out); (case h8 => exact HB2.out.size); (case h9 => exact (by simp)); intro v6 w3 ho hb hg hnew; have HS : Aside0 (Sel w w2 w3 f [] v6 []) := ⟨⟨ho, (fun k hk => by obtain ⟨b, e, h2⟩ := hnew; rw [e] at hk; obtain rfl := Option.some.inj hk; exact h2), ⟨hg.os, hg.tape, hg.output, hg.size, fun k hk => hg.block k hk (by simp)⟩, hb⟩⟩; have y2 := (HS.out.le.cell (World.block_lt_of_cell? w2 _ y1)).trans y1; clear ho hb hg hnew y1))
    go_loopw [6, 21] (fun v6 v21 wr => ∃ (i : Nat) (used : List Nat) (Y : List (List Int)), v21 = .int .i64 i ∧ i ≤ l0_1.length ∧ Y.length ≤ i ∧ Aside0 (Sel w w2 wr f used v6 Y) ∧ Aside0 (Y ++ allHits S X (iota (i : Int) (l0_1.length - i)) = r1) ∧ Aside0 (∀ q ∈ used, ∃ s, S[q]? = some s ∧ s < (i : Int))) (fun _ i _ => l0_1.length - (intOf i).toNat)
    case atStart => exact ⟨0, [], [], rfl, Nat.zero_le _, Nat.le_refl _, ⟨HS.out.below (by repeat (first | with_reducible exact Below.refl _ _ | with_reducible apply below_alloc | with_reducible apply pw_below_drewN | with_reducible apply below_drew1))⟩, ⟨by simpa using HR.out⟩, ⟨fun q h => by simp at h⟩⟩
    case round =>
      clear HS HR y2
      obtain ⟨i, used, Y, rfl, hi, hY, HS, HQ, HU⟩ := hrel
      obtain ⟨A6, c6, e6⟩ := Kd.S_slice HS.out.ro
      subst e6
      by_cases hlt : i < l0_1.length
      · obtain ⟨r, ⟨K3, hr3⟩, hr⟩ := index_at (i : Int) S (by simp only [maxLen]; omega)
        have HK3 := Aside0.mk (hr3 K3 (Nat.le_refl _))
        have hQ := HQ.out
        rw [show l0_1.length - i = (l0_1.length - (i + 1)) + 1 by omega, iota] at hQ
        simp only [allHits, List.flatMap_cons] at hQ
        have HRW := Aside0.mk (Kd.R_reads' (Kd.R_below HR2.out HS.out.le))
        clear hr3 HQ
        rcases hr with ⟨hm, rfl⟩ | ⟨q, rfl, hq⟩
        · rw [hitsL_none S X (i : Int) hm, List.nil_append] at hQ
          have HQ : Aside0 (Y ++ allHits S X (iota ((i + 1 : Nat) : Int) (l0_1.length - (i + 1))) = r1) := ⟨by rw [← hQ]; simp [allHits]⟩
          clear hQ hm
          go_wp2_with (go_at_call 59; (with_reducible refine (slices_Index_int_int.calls K3 _ _ S (i : Int) (-1) _ HRW.out.2.2 HRW.out.2.1 HK3.out).mono ?_); rintro e w' ⟨rfl, ⟨nd, rfl⟩⟩)
          go_roundw
          case rel => exact ⟨i + 1, used, Y, by go_num, by omega, by omega, ⟨HS.out.below (by repeat (first | with_reducible exact Below.refl _ _ | with_reducible apply below_alloc | with_reducible apply pw_below_drewN | with_reducible apply below_drew1))⟩, HQ, ⟨fun q h => by obtain ⟨s, h1, h2⟩ := HU.out q h; exact ⟨s, h1, by omega⟩⟩⟩
          case measure => simp [intOf]; omega
        · have hqS : q < S.length := (List.getElem?_eq_some_iff.1 hq).1
          have hqX : q < X.length := by omega
          rw [hitsL_one S X (i : Int) q HND.out hlS hq] at hQ
          obtain ⟨Aw, cw, hcell, hRw, hown⟩ := pick HF.out q hqX
          obtain ⟨y, hy⟩ : ∃ y, y = X.getD q [] := ⟨_, rfl⟩
          rw [← hy] at hQ hcell hRw hown
          have HQ : Aside0 ((Y ++ [y]) ++ allHits S X (iota ((i + 1 : Nat) : Int) (l0_1.length - (i + 1))) = r1) := ⟨by rw [← hQ]; simp [allHits]⟩
          have HN : Aside0 (q ∉ used) := ⟨fun hm => by obtain ⟨s, h1, h2⟩ := HU.out q hm; rw [hq] at h1; have := Option.some.inj h1; omega⟩
          have HU2 : Aside0 (∀ z ∈ q :: used, ∃ s, S[z]? = some s ∧ s < ((i + 1 : Nat) : Int)) := ⟨fun z hz => by
            rcases List.mem_cons.1 hz with rfl | hz
            · exact ⟨_, hq, by omega⟩
            · obtain ⟨s, h1, h2⟩ := HU.out z hz
              exact ⟨s, h1, by omega⟩⟩
          have HRo := Aside0.mk hRw
          have HOw := Aside0.mk hown
          have cz := (HS.out.le.cell (World.block_lt_of_cell? w2 _ hcell)).trans hcell
          have g1 : decide ((q : Int) ≥ 0) = true := decide_eq_true (by omega)
          have g2 : decide ((0 : Int) ≤ (q : Int)) = true := decide_eq_true (by omega)
          clear hQ hRw hown hy hcell hq HU
          go_wp2_with (first
            | (go_at_call 59; (with_reducible refine (slices_Index_int_int.calls K3 _ _ S (i : Int) (q : Int) _ HRW.out.2.2 HRW.out.2.1 HK3.out).mono ?_); rintro e w' ⟨rfl, ⟨nd, rfl⟩⟩)
            | ((with_reducible refine gate_builtin (b := .append) (xs := #[.tmp 29, .tmp 34]) rfl ?_); at_builtin; refine Kd.S_append (Kd.slice 3 (Kd.int .i64)) (w0 := w) w.heap.size rfl (.tmp 29) (.tmp 34) 22 23 (.slice none 0 0) 24 rfl Try.underlying22 info23 rfl (by decide) (by omega) (.slice A6 Y.length c6) Y y [.slice Aw y.length cw] (fun k => w2.heap.size ≤ k ∨ f k ∈ q :: used) (fun k_ => some k_ = (Value.slice Aw y.length cw).ownBlock) rfl rfl ?aM ?aK ?aF ?aO ?aB ?aS ?aL ?_; (case aM => exact (HS.out.below (by repeat (first | with_reducible exact Below.refl _ _ | with_reducible apply below_alloc | with_reducible apply pw_below_drewN | with_reducible apply below_drew1))).row HRo.out); (case aK => exact (HS.out.below (by repeat (first | with_reducible exact Below.refl _ _ | with_reducible apply below_alloc | with_reducible apply pw_below_drewN | with_reducible apply below_drew1))).okp HOw.out); (case aF => exact (HS.out.below (by repeat (first | with_reducible exact Below.refl _ _ | with_reducible apply below_alloc | with_reducible apply pw_below_drewN | with_reducible apply below_drew1))).fresh); (case aO => exact (HS.out.below (by repeat (first | with_reducible exact Below.refl _ _ | with_reducible apply below_alloc | with_reducible apply pw_below_drewN | with_reducible apply below_drew1))).rest HN.out HOw.out); (case aB => exact (HS.out.below (by repeat (first | with_reducible exact Below.refl _ _ | with_reducible apply below_alloc | with_reducible apply pw_below_drewN | with_reducible apply below_drew1))).be); (case aS => exact (HS.out.below (by repeat (first | with_reducible exact Below.refl _ _ | with_reducible apply below_alloc | with_reducible apply pw_below_drewN | with_reducible apply below_drew1))).be.size); (case aL => omega); intro v6n w11 ho hb hg hat; have HS5 := Aside0.mk ((HS.out.below (by repeat (first | with_reducible exact Below.refl _ _ | with_reducible apply below_alloc | with_reducible apply pw_below_drewN | with_reducible apply below_drew1))).push ho hb hg hat); clear ho hb hg hat))
          go_roundw
          case rel => exact ⟨i + 1, q :: used, Y ++ [y], by go_num, by omega, by simp; omega, ⟨HS5.out.below (by repeat (first | with_reducible exact Below.refl _ _ | with_reducible apply below_alloc | with_reducible apply pw_below_drewN | with_reducible apply below_drew1))⟩, HQ, HU2⟩
          case measure => simp [intOf]; omega
      · obtain rfl : i = l0_1.length := by omega
        have hQ := HQ.out
        rw [Nat.sub_self, iota] at hQ
        simp only [allHits, List.flatMap_nil, List.append_nil] at hQ
        subst hQ
        clear HQ
        go_wp2_with fail
        go_ret2
        exact ⟨_, rfl, Kd.S_mono HS.out.ro (fun _ _ => trivial), HS.out.be⟩
  · rw [if_neg hA] at h
    simp only [Prod.mk.injEq] at h
    obtain ⟨rfl, rfl⟩ := h
    have HK2 : Aside0 (impl_IsAutomaton.f K a0_0 l0_1 l0_2 = some false) := ⟨by rw [HK.out, decide_eq_false hA]⟩
    clear hA HK
    go_enter Try.func35, Try.ntmps35
    go_wp2_with fail
    refine (impl_IsAutomaton.calls K _ _ _ _ _ _ _ false _ (Kd.C_below H1.out HB0.out) HC1.out (Kd.C_below H2.out HB0.out) HC2.out HK2.out).mono ?_
    rintro e w1 ⟨rfl, hb⟩
    have HB1 := Aside0.mk (below_step HB0.out hb)
    clear hb HB0 BK0 HK2
    go_wp2_with fail
    go_ret2
    exact ⟨_, rfl, Kd.S_nil _ _ _ _ _, HB1.out⟩
end Go.Proofs.Ytkfedkckakegjaa.P
