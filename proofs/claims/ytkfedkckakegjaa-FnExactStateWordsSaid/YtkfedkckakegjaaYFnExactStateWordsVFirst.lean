/- The walk of the program's firstWords: for a valid automaton it returns what the plain search 'bfsA' finds; no two words share memory. -/
import Derived.Test.YtkfedkckakegjaaYFnExactStateWordsPx20
import Derived.Test.YtkfedkckakegjaaOwnBfs
import Derived.Test.YtkfedkckakegjaaYFnExactStateWordsAReach
namespace Go.Proofs.Ytkfedkckakegjaa.P
open Go.RowKit Go.Proofs.YtkfedkckakegjaaW.PrintWords Go.Proofs.YtkfedkckakegjaaW.PrintLast Go.Proofs.YtkfedkckakegjaaW.PrintMore Go.Proofs.Ytkfedkckakegjaa.Own Go.Proofs.Ytkfedkckakegjaa.A
set_option linter.unusedVariables false
set_option linter.unusedSimpArgs false
set_option maxHeartbeats 4000000 in
set_option maxRecDepth 100000 in
theorem firstWords_own (L : Int) (A1 : Option Addr) (c1 : Nat) (N : List (List Int)) (A2 : Option Addr) (c2 : Nat) (F : List Int) (w : World) (h1 : Kd.C (Kd.slice 3 (Kd.int .i64)) w A1 N.length N) (hc1 : N.length ≤ c1) (h2 : Kd.C (Kd.int .i64) w A2 F.length F) (hc2 : F.length ≤ c2) (hA : AuOk L N F) :
    Calls Try.prog 54 #[.agg #[.int .i64 L, .slice A1 N.length c1, .slice A2 F.length c2]] w fun e w' => ∃ v0 v1 : Value, e = .returned (.tuple #[v0, v1]) ∧ Kd.R (Kd.int .i64) 3 w' w.heap.size (fun _ => True) v0 (bfsA N).1 ∧ Kd.S (Kd.slice 3 (Kd.int .i64)) 23 w' w.heap.size (fun k => some k ≠ v0.ownBlock) v1 (bfsA N).2 ∧ Below w.heap.size w w' := by
  have hu29 := Try.underlying29
  have HA := Aside0.mk hA
  obtain ⟨ad1, _, _, ea1, -⟩ := at_L1 h1 (0 : Int) (by omega) (by have := hA.2.1; omega)
  subst ea1
  have H1 := Aside0.mk h1
  have hn12 : N.length ≤ 12 := by have := hA.2.1; omega
  have HE := Aside0.mk (bfsA_end hA)
  have HB0 : Aside0 (Below w.heap.size w (w.alloc (.cells #[.int .i64 L, .slice (some ad1) N.length c1, .slice A2 F.length c2] 29))) := ⟨below_alloc (Below.refl _ _) _⟩
  have BK0 := Aside0.mk (blk_new w (.cells #[.int .i64 L, .slice (some ad1) N.length c1, .slice A2 F.length c2] 29))
  clear h1 hc1 h2 hc2 hA
  go_enter Try.func54, Try.ntmps54
  go_wp2_with (first
    | ((with_reducible refine gate_dst (N := 9) rfl ?_); refine Kd.R_lit (Kd.int .i64) _ 3 rfl (N := 9) rfl (xs := ([0] : List Int)) (inner := [.int .i64 0]) (ok := fun _ => True) (okp := fun _ => True) ?hr (Reps.one (show Kd.M (Kd.int .i64) _ _ _ 0 [.int .i64 0] from rfl) (Reps.none _ _)) (fun _ hk => hk) trivial (Below.refl _ _) (Nat.le_refl _) (by simp) ?_; (case hr => first | (go_simp; done) | (go_simp; rfl)); intro v4 w3 ho hb _ _; have HO4 := Aside0.mk (Kd.R_lower ho HB0.out.size); have BK3 := Aside0.mk (blk_below BK0.out hb); have HB3 := Aside0.mk (below_step HB0.out hb); clear ho hb HB0 BK0)
    | ((with_reducible refine gate_dst (N := 10) rfl ?_); refine Kd.R_lit (Kd.int .i64) _ 3 rfl (N := 10) rfl (xs := ([] : List Int)) (inner := []) (ok := fun _ => True) (okp := fun _ => True) ?hr (Reps.none _ _) (fun _ hk => hk) trivial (Below.refl _ _) (Nat.le_refl _) (by simp) ?_; (case hr => first | (go_simp; done) | (go_simp; rfl)); intro vl w4 ho hb _ _; have HL := Aside0.mk (Kd.R_mono (Kd.R_lower (Kd.R_new' ho (Kd.R_lt HO4.out)) HB3.out.size) (ok' := fun k => some k ≠ v4.ownBlock) (fun _ hk => hk.2)); have HO4' := Aside0.mk (Kd.R_below HO4.out hb); have BK4 := Aside0.mk (blk_below BK3.out hb); have HB4 := Aside0.mk (below_step HB3.out hb); clear ho hb HB3 BK3 HO4; obtain ⟨Al, cl, el⟩ := Kd.R_slice HL.out; replace el : vl = .slice Al 0 cl := el; subst el)
    | ((with_reducible refine gate_dst (N := 11) rfl ?_); refine Kd.S_lits (Kd.slice 3 (Kd.int .i64)) (w0 := w) w.heap.size 23 rfl (N := 11) rfl (xs := ([[]] : List (List Int))) (inner := [.slice Al 0 cl]) (ok := fun k => some k ≠ v4.ownBlock) (fun j k => j = 0 ∧ some k = (Value.slice Al 0 cl).ownBlock) ?h1 ?h2 ?h3 ?h4 ?h5 ?h6 ?h7 ?h8 ?h9 ?_; (case h1 => first | (go_simp; done) | (go_simp; rfl)); (case h2 => exact rfl); (case h3 => exact first_rep HL.out); (case h4 => exact (fun i j k h1 h2 => h1.1.trans h2.1.symm)); (case h5 => exact (fun j k h1 => HL.out.1 k h1.2.symm)); (case h6 => exact (fun e => by have := Kd.R_lt HO4'.out _ e.symm; omega)); (case h7 => exact HB4.out); (case h8 => exact HB4.out.size); (case h9 => exact (by simp)); intro v5 w5 ho hb hg hnew; have HS : Aside0 (Bfs w w5 w.heap.size #[.int .i64 L, .slice (some ad1) N.length c1, .slice A2 F.length c2] v4 v5 [0] [[]]) := ⟨⟨Kd.R_grown HO4'.out hg (fun k _ => by simp), ho, blk_grown BK4.out hg (by simp), hb⟩⟩; clear ho hb hg hnew HL HO4' BK4 HB4))
  go_loopw [4, 5, 6] (fun v4 v5 v6 wr => ∃ (i : Nat) (p : List Int × List (List Int)), v6 = .int .i64 i ∧ i ≤ N.length ∧ Aside0 (Bfs w wr w.heap.size #[.int .i64 L, .slice (some ad1) N.length c1, .slice A2 F.length c2] v4 v5 p.1 p.2) ∧ Aside0 (BInv (succA N) (VA N) 0 p) ∧ Aside0 (Closed (succA N) i p) ∧ Aside0 (bfsN (succA N) 0 (N.length - i) i p = bfsA N)) (fun _ _ i _ => N.length - (intOf i).toNat)
  case atStart => exact ⟨0, ([0], [[]]), rfl, Nat.zero_le _, HS, ⟨BInv.one (show VA N 0 from ⟨by omega, by have := HA.out.2.1; omega⟩)⟩, ⟨fun j x hj => absurd hj (Nat.not_lt_zero _)⟩, ⟨by rw [Nat.sub_zero]; rfl⟩⟩
  case round =>
    clear HS
    obtain ⟨i, p, rfl, hi, HS, HI, HC, HF⟩ := hrel
    have hshort := HI.out.short
    obtain ⟨A4, c4, e4⟩ := Kd.R_slice HS.out.st
    subst e4
    by_cases hlt : i < p.1.length
    · obtain ⟨h2, c2_⟩ := bfs_step 0 HA.out.succ HI.out HC.out hlt
      obtain ⟨s, hs⟩ : ∃ s, s = p.1.getD i 0 := ⟨_, rfl⟩
      have hrd : rd p.1 (i : Int) = s := by rw [hs]; simp [rd]
      have hv := HI.out.valid s (List.mem_of_getElem? (show p.1[i]? = some s by rw [hs]; simp [List.getD_eq_getElem?_getD, hlt]))
      have hs0 : 0 ≤ s := hv.1
      have hs1 : s < (N.length : Int) := hv.2
      obtain ⟨wi, hwi⟩ : ∃ wi, wi = p.2.getD i [] := ⟨_, rfl⟩
      have hi2 : i < p.2.length := by rw [HI.out.len]; exact hlt
      have hwl := (HI.out.way i s wi (by rw [hs]; simp [List.getD_eq_getElem?_getD, hlt]) (by rw [hwi]; simp [List.getD_eq_getElem?_getD, hi2])).2
      have HX0 : Aside0 (p.2[i]? = some wi) := ⟨by rw [hwi]; simp [List.getD_eq_getElem?_getD, hi2]⟩
      obtain ⟨row, hrow⟩ : ∃ row, row = rd_L1 N s := ⟨_, rfl⟩
      have hsr : succA N s = row := hrow.symm
      rw [← hs, ← hwi, hsr] at h2 c2_
      obtain ⟨q, hq⟩ : ∃ q, q = rowGo wi 0 row p := ⟨_, rfl⟩
      rw [← hq] at h2 c2_
      have HI2 := Aside0.mk h2
      have HC2 := Aside0.mk c2_
      have hq12 := h2.short
      have HF2 : Aside0 (bfsN (succA N) 0 (N.length - (i + 1)) (i + 1) q = bfsA N) := ⟨by
        rw [← HF.out, show N.length - i = (N.length - (i + 1)) + 1 by omega, bfsN, if_pos hlt, ← hs, ← hwi, hsr, ← hq]⟩
      have hrl : row.length ≤ 3 := by
        have := (HA.out.2.2.1 row (by rw [hrow]; exact rdl_mem hs0 hs1)).1
        have := HA.out.1
        omega
      have HQ : Aside0 (rowGo wi 0 row (p.1, p.2) = q) := ⟨hq.symm⟩
      obtain ⟨ad4, ea4, hx4⟩ := Kd.at_int (Kd.R_reads' HS.out.st).2.2 (i : Int) (by omega) (by omega)
      subst ea4
      rw [hrd, Int.toNat_natCast] at hx4
      obtain ⟨ad1_, Ar, cr, ea1, hx1, hlr, hCr⟩ := at_L1 H1.out s hs0 hs1
      cases ea1
      rw [← hrow] at hx1 hlr hCr
      have hr1 : 1 ≤ row.length := by
        have := (HA.out.2.2.1 row (by rw [hrow]; exact rdl_mem hs0 hs1)).1
        have := HA.out.1
        omega
      obtain ⟨adr, ear, -⟩ := Kd.at_int hCr (0 : Int) (by omega) (by omega)
      subst ear
      have HR := Aside0.mk hCr
      have hx1' := (HS.out.be.cell (World.block_lt_of_cell? w _ hx1)).trans hx1
      have cz1 : wr.cell? ⟨w.heap.size, 1, none⟩ = some (.slice (some ad1) N.length c1) := (blk_cell HS.out.bk 1).trans rfl
      clear hq hs hwi hrow hsr hv h2 c2_ hrd hx1 hlr hCr HI HC HF
      go_wp2
      repeat (go_quiet (fail); try go_wp2)
      go_loopw [4, 5, 27] (fun v4 v5 v27 wr => ∃ (j : Nat) (S : List Int) (X : List (List Int)), v27 = .int .i64 j ∧ j ≤ row.length ∧ Aside0 (Bfs w wr w.heap.size #[.int .i64 L, .slice (some ad1) N.length c1, .slice A2 F.length c2] v4 v5 S X) ∧ Aside0 (rowGo wi (j : Int) (row.drop j) (S, X) = q) ∧ Aside0 (X[i]? = some wi)) (fun _ _ j _ => row.length - (intOf j).toNat)
      case atStart => exact ⟨0, p.1, p.2, rfl, Nat.zero_le _, ⟨HS.out.below (by repeat (first | with_reducible exact Below.refl _ _ | with_reducible apply below_alloc | with_reducible apply pw_below_drewN | with_reducible apply below_drew1))⟩, HQ, HX0⟩
      case round =>
        clear HS HX0 HQ hx4 hx1' cz1
        obtain ⟨j, S, X, rfl, hj, HS, HQ, HX⟩ := hrel
        obtain ⟨A4, c4, e4⟩ := Kd.R_slice HS.out.st
        subst e4
        obtain ⟨A5, c5, e5⟩ := Kd.S_slice HS.out.wo
        subst e5
        have hSX : S.length ≤ 12 ∧ X.length ≤ 12 := by
          obtain ⟨a, b, e⟩ := rowGo_grows wi (row.drop j) (j : Int) (S, X)
          rw [HQ.out] at e
          have l1 : q.1.length = S.length + a.length := by rw [e]; simp
          have l2 : q.2.length = X.length + b.length := by rw [e]; simp
          have := HI2.out.len
          omega
        obtain ⟨hS12, hX12⟩ := hSX
        by_cases hlj : j < row.length
        · obtain ⟨adr2, ear, hxr⟩ := Kd.at_int HR.out (j : Int) (by omega) (by omega)
          cases ear
          obtain ⟨t, ht⟩ : ∃ t, t = rd row (j : Int) := ⟨_, rfl⟩
          have hdrop : row.drop j = t :: row.drop (j + 1) := by rw [List.drop_eq_getElem_cons hlj, ht]; simp [rd, hlj]
          have hQ := HQ.out
          rw [hdrop, rowGo] at hQ
          rw [← ht, Int.toNat_natCast] at hxr
          have hxr' := (HS.out.be.cell (World.block_lt_of_cell? w _ hxr)).trans hxr
          obtain ⟨K, hK⟩ := contains S t (by simp only [maxLen]; omega)
          have HK : Aside0 (slices_Contains_int_int.f K S t = some (decide (t ∈ S))) := ⟨hK K (Nat.le_refl _)⟩
          have hiX : i < X.length := (List.getElem?_eq_some_iff.1 HX.out).1
          have hXi : rd_L1 X (i : Int) = wi := by simp [rd_L1, List.getD_eq_getElem?_getD, HX.out]
          have HXi := Aside0.mk hXi
          clear hK hdrop ht hxr HQ hXi
          by_cases hm : t ∈ S
          · rw [if_pos (show t ∈ (S, X).1 from hm)] at hQ
            have HQ : Aside0 (rowGo wi ((j + 1 : Nat) : Int) (row.drop (j + 1)) (S, X) = q) := ⟨by rw [← hQ]; simp⟩
            have HK2 : Aside0 (slices_Contains_int_int.f K S t = some true) := ⟨by rw [HK.out, decide_eq_true hm]⟩
            clear hQ HK hm
            go_wp2_with (go_at_call 52; (with_reducible refine (slices_Contains_int_int.calls K _ _ S t true _ (Kd.R_reads' HS.out.st).2.2 (Kd.R_reads' HS.out.st).2.1 HK2.out).mono ?_); rintro e w' ⟨rfl, ⟨nd, rfl⟩⟩)
            go_roundw
            case rel => exact ⟨j + 1, S, X, by go_num, by omega, ⟨HS.out.below (by repeat (first | with_reducible exact Below.refl _ _ | with_reducible apply below_alloc | with_reducible apply pw_below_drewN | with_reducible apply below_drew1))⟩, HQ, HX⟩
            case measure => simp [intOf]; omega
          · rw [if_neg (show ¬ t ∈ (S, X).1 from hm)] at hQ
            have HQ : Aside0 (rowGo wi ((j + 1 : Nat) : Int) (row.drop (j + 1)) (S ++ [t], X ++ [wi ++ [(j : Int)]]) = q) := ⟨by rw [← hQ]; simp⟩
            have HK2 : Aside0 (slices_Contains_int_int.f K S t = some false) := ⟨by rw [HK.out, decide_eq_false hm]⟩
            clear hQ HK hm
            go_wp2_with (first
              | (go_at_call 52; (with_reducible refine (slices_Contains_int_int.calls K _ _ S t false _ (Kd.R_reads' HS.out.st).2.2 (Kd.R_reads' HS.out.st).2.1 HK2.out).mono ?_); rintro e w' ⟨rfl, ⟨nd, rfl⟩⟩)
              | ((with_reducible refine gate_builtin (b := .append) (xs := #[.tmp 36, .tmp 38]) rfl ?_); at_builtin; refine Kd.R_append (Kd.int .i64) (w0 := w) w.heap.size rfl (.tmp 36) (.tmp 38) 23 3 (.int .i64 0) 8 rfl Try.underlying23 info3 rfl (by decide) (by omega) (.slice A4 S.length c4) S t [.int .i64 t] (fun _ => True) (fun _ => False) rfl rfl ?aP (fun _ hk => hk.elim) (fun _ _ => trivial) ?aO ?aB ?aS ?aL ?_; (case aP => exact rfl); (case aO => exact (HS.out.below (by repeat (first | with_reducible exact Below.refl _ _ | with_reducible apply below_alloc | with_reducible apply pw_below_drewN | with_reducible apply below_drew1))).st); (case aB => exact (HS.out.below (by repeat (first | with_reducible exact Below.refl _ _ | with_reducible apply below_alloc | with_reducible apply pw_below_drewN | with_reducible apply below_drew1))).be); (case aS => exact (HS.out.below (by repeat (first | with_reducible exact Below.refl _ _ | with_reducible apply below_alloc | with_reducible apply pw_below_drewN | with_reducible apply below_drew1))).be.size); (case aL => omega); intro v4n w7 ho hb hg hat; have HS1 := Aside0.mk ((HS.out.below (by repeat (first | with_reducible exact Below.refl _ _ | with_reducible apply below_alloc | with_reducible apply pw_below_drewN | with_reducible apply below_drew1))).push ho hb hg hat); clear ho hb hg hat)
              | ((with_reducible refine gate_dst (N := 41) rfl ?_); refine Kd.R_lit (Kd.int .i64) _ 3 rfl (N := 41) rfl (xs := ([] : List Int)) (inner := []) (ok := fun _ => True) (okp := fun _ => True) ?hr (Reps.none _ _) (fun _ hk => hk) trivial (Below.refl _ _) (Nat.le_refl _) (by simp) ?_; (case hr => first | (go_simp; done) | (go_simp; rfl)); intro vl w8 ho hb _ _; have HS2 := Aside0.mk (HS1.out.lit ho hb); clear ho hb HS1; obtain ⟨ad5, Aw, cw, ea5, hx5, _, hC5⟩ := at_L1 (Kd.S_reads' HS2.out.wo).2.2 (i : Int) (by omega) (by omega); subst ea5; rw [HXi.out, Int.toNat_natCast] at hx5; rw [HXi.out] at hC5; have HCw := Aside0.mk hC5; clear hC5)
              | ((with_reducible refine gate_builtin (b := .append) (xs := #[.tmp 41, .tmp 45]) rfl ?_); at_builtin; refine Kd.R_append_rows (Kd.int .i64) (w0 := w) w.heap.size rfl (.tmp 41) (.tmp 45) 23 3 (.int .i64 0) 8 rfl Try.underlying23 info3 rfl (by decide) (by omega) vl [] wi _ _ _ (fun k_ => some k_ ≠ v4n.ownBlock) (fun _ => False) rfl rfl ?aO ?aR (fun _ _ h => h) (fun _ h => h.elim) ?aF ?aB ?aS ?aL ?_; (case aR => exact Kd.C_below HCw.out (by repeat (first | with_reducible exact Below.refl _ _ | with_reducible apply below_alloc | with_reducible apply pw_below_drewN | with_reducible apply below_drew1))); (case aB => exact (HS2.out.below (by repeat (first | with_reducible exact Below.refl _ _ | with_reducible apply below_alloc | with_reducible apply pw_below_drewN | with_reducible apply below_drew1))).be); (case aF => exact (HS2.out.below (by repeat (first | with_reducible exact Below.refl _ _ | with_reducible apply below_alloc | with_reducible apply pw_below_drewN | with_reducible apply below_drew1))).fresh); (case aO => exact (HS2.out.below (by repeat (first | with_reducible exact Below.refl _ _ | with_reducible apply below_alloc | with_reducible apply pw_below_drewN | with_reducible apply below_drew1))).li); (case aS => exact (HS2.out.below (by repeat (first | with_reducible exact Below.refl _ _ | with_reducible apply below_alloc | with_reducible apply pw_below_drewN | with_reducible apply below_drew1))).be.size); (case aL => simp; omega); intro vr w9 ho hb hg hat; have HS3 := Aside0.mk ((HS2.out.below (by repeat (first | with_reducible exact Below.refl _ _ | with_reducible apply below_alloc | with_reducible apply pw_below_drewN | with_reducible apply below_drew1))).grow ho hb hg hat); clear ho hb hg hat HS2 HCw hx5)
              | ((with_reducible refine gate_builtin (b := .append) (xs := #[.tmp 46, .tmp 48]) rfl ?_); at_builtin; refine Kd.R_append (Kd.int .i64) (w0 := w) w.heap.size rfl (.tmp 46) (.tmp 48) 23 3 (.int .i64 0) 8 rfl Try.underlying23 info3 rfl (by decide) (by omega) vr ([] ++ wi) (j : Int) [.int .i64 (j : Int)] (fun k_ => some k_ ≠ v4n.ownBlock) (fun _ => False) rfl rfl ?aP (fun _ hk => hk.elim) ?aF ?aO ?aB ?aS ?aL ?_; (case aP => exact rfl); (case aO => exact (HS3.out.below (by repeat (first | with_reducible exact Below.refl _ _ | with_reducible apply below_alloc | with_reducible apply pw_below_drewN | with_reducible apply below_drew1))).li); (case aF => exact (HS3.out.below (by repeat (first | with_reducible exact Below.refl _ _ | with_reducible apply below_alloc | with_reducible apply pw_below_drewN | with_reducible apply below_drew1))).fresh); (case aB => exact (HS3.out.below (by repeat (first | with_reducible exact Below.refl _ _ | with_reducible apply below_alloc | with_reducible apply pw_below_drewN | with_reducible apply below_drew1))).be); (case aS => exact (HS3.out.below (by repeat (first | with_reducible exact Below.refl _ _ | with_reducible apply below_alloc | with_reducible apply pw_below_drewN | with_reducible apply below_drew1))).be.size); (case aL => simp; omega); intro vs w10 ho hb hg hat; have HS4 := Aside0.mk ((HS3.out.below (by repeat (first | with_reducible exact Below.refl _ _ | with_reducible apply below_alloc | with_reducible apply pw_below_drewN | with_reducible apply below_drew1))).grow ho hb hg hat); clear ho hb hg hat HS3; obtain ⟨ys, hys⟩ : ∃ y_, y_ = ([] ++ wi ++ [(j : Int)]) := ⟨_, rfl⟩; rw [← hys] at HS4; have HY := Aside0.mk hys; clear hys; obtain ⟨As, cs_, es⟩ := Kd.R_slice HS4.out.li; subst es)
              | ((with_reducible refine gate_builtin (b := .append) (xs := #[.tmp 40, .tmp 50]) rfl ?_); at_builtin; refine Kd.S_append (Kd.slice 3 (Kd.int .i64)) (w0 := w) w.heap.size rfl (.tmp 40) (.tmp 50) 22 23 (.slice none 0 0) 24 rfl Try.underlying22 info23 rfl (by decide) (by omega) (.slice (some ad5) X.length c5) X ys [.slice As ys.length cs_] (fun k_ => some k_ ≠ v4n.ownBlock) (fun k_ => some k_ = (Value.slice As ys.length cs_).ownBlock) rfl rfl ?aM ?aK ?aF ?aO ?aB ?aS ?aL ?_; (case aM => exact (HS4.out.below (by repeat (first | with_reducible exact Below.refl _ _ | with_reducible apply below_alloc | with_reducible apply pw_below_drewN | with_reducible apply below_drew1))).mem); (case aK => exact (HS4.out.below (by repeat (first | with_reducible exact Below.refl _ _ | with_reducible apply below_alloc | with_reducible apply pw_below_drewN | with_reducible apply below_drew1))).okp); (case aF => exact (HS4.out.below (by repeat (first | with_reducible exact Below.refl _ _ | with_reducible apply below_alloc | with_reducible apply pw_below_drewN | with_reducible apply below_drew1))).fresh); (case aO => exact (HS4.out.below (by repeat (first | with_reducible exact Below.refl _ _ | with_reducible apply below_alloc | with_reducible apply pw_below_drewN | with_reducible apply below_drew1))).wo); (case aB => exact (HS4.out.below (by repeat (first | with_reducible exact Below.refl _ _ | with_reducible apply below_alloc | with_reducible apply pw_below_drewN | with_reducible apply below_drew1))).be); (case aS => exact (HS4.out.below (by repeat (first | with_reducible exact Below.refl _ _ | with_reducible apply below_alloc | with_reducible apply pw_below_drewN | with_reducible apply below_drew1))).be.size); (case aL => omega); intro v5n w11 ho hb hg hat; have HS5 := Aside0.mk ((HS4.out.below (by repeat (first | with_reducible exact Below.refl _ _ | with_reducible apply below_alloc | with_reducible apply pw_below_drewN | with_reducible apply below_drew1))).done ho hb hg); clear ho hb hg hat HS4))
            go_roundw
            case rel => exact ⟨j + 1, S ++ [t], X ++ [wi ++ [(j : Int)]], by go_num, by omega, ⟨(show Bfs w _ _ _ _ _ (S ++ [t]) (X ++ [wi ++ [(j : Int)]]) from by have h_ := HS5.out; rw [HY.out, List.nil_append] at h_; exact h_).below (by repeat (first | with_reducible exact Below.refl _ _ | with_reducible apply below_alloc | with_reducible apply pw_below_drewN | with_reducible apply below_drew1))⟩, HQ, ⟨by rw [List.getElem?_append_left hiX]; exact HX.out⟩⟩
            case measure => simp [intOf]; omega
        · obtain rfl : j = row.length := by omega
          have hd : row.drop row.length = [] := by simp
          have hQ := HQ.out
          rw [hd, rowGo] at hQ
          subst hQ
          clear hd HQ
          go_wp2
          go_roundw
          case rel => exact ⟨i + 1, (S, X), by go_num, by omega, ⟨HS.out.below (by repeat (first | with_reducible exact Below.refl _ _ | with_reducible apply below_alloc | with_reducible apply pw_below_drewN | with_reducible apply below_drew1))⟩, HI2, HC2, HF2⟩
          case measure => simp [intOf]; omega
    · have HF2 : Aside0 (p = bfsA N) := ⟨by
        rw [← HF.out]
        cases hd : N.length - i with
        | zero => rfl
        | succ d => rw [bfsN, if_neg hlt]⟩
      obtain ⟨A5, c5, e5⟩ := Kd.S_slice HS.out.wo
      subst e5
      have HS2 := HS.out
      clear HI HC HF HS
      rw [HF2.out] at HS2
      have HS := Aside0.mk HS2
      clear HS2
      go_wp2
      go_ret2
      exact ⟨_, _, rfl, by rw [HF2.out] ; exact HS.out.st, by rw [HF2.out]; exact HS.out.wo, HS.out.be⟩
end Go.Proofs.Ytkfedkckakegjaa.P
