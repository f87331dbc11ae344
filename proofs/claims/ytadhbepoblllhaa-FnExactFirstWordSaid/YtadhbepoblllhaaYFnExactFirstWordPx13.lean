/- The walk of the reference's eqWord: the first pair of a kind that the search finds, and its word. -/
import Derived.Test.YtadhbepoblllhaaYFnExactFirstWordPx12
import Derived.Test.YtadhbepoblllhaaYFnExactFirstWordPx11
import Derived.Test.YtadhbepoblllhaaYFnExactFirstWordPx10
import Derived.Test.YtadhbepoblllhaaYFnExactFirstWordAWord0
import Derived.Test.YtadhbepoblllhaaYFnExactFirstWordABase
namespace Go.Proofs.Ytadhbepoblllhaa.P
open Go.RowKit Go.Proofs.YtadhbepoblllhaaW.PrintWords Go.Proofs.YtadhbepoblllhaaW.PrintLast Go.Proofs.YtadhbepoblllhaaW.PrintMore Go.Proofs.Ytadhbepoblllhaa.Own Go.Proofs.Ytadhbepoblllhaa.A
set_option linter.unusedVariables false
set_option linter.unusedSimpArgs false
/-! ### spec_eqWord: function 31 -/
def spec_eqWord.f (k : Nat) (a0 : Int) (a1_0 : Int) (l1_1 : List (List Int)) (l1_2 : List Int) (a2_0 : Int) (l2_1 : List (List Int)) (l2_2 : List Int) (a3 : Int) (a4 : Int) : Option (List Int × Bool) := if (TwoOk a1_0 l1_1 l2_1 ∧ VP l1_1 l2_1 (a3, a4)) ∧ l1_2.length ≤ maxLen ∧ l2_2.length ≤ maxLen then some (findP a0 l1_2 l2_2 (bfsP l1_1 l2_1 a3 a4).1 (bfsP l1_1 l2_1 a3 a4).2) else none
theorem spec_eqWord.mono : ∀ a0 a1 a2 a3 a4 a5 a6 a7 a8 k, LeO (spec_eqWord.f k a0 a1 a2 a3 a4 a5 a6 a7 a8) (spec_eqWord.f (k + 1) a0 a1 a2 a3 a4 a5 a6 a7 a8) := fun _ _ _ _ _ _ _ _ _ _ r h => h
set_option maxHeartbeats 4000000 in
set_option maxRecDepth 100000 in
theorem eqWord_walk (kind : Int) (L : Int) (A1 : Option Addr) (c1 : Nat) (A : List (List Int)) (A2 : Option Addr) (c2 : Nat) (F : List Int) (L2 : Int) (B1 : Option Addr) (d1 : Nat) (B : List (List Int)) (B2 : Option Addr) (d2 : Nat) (G : List Int) (i0 k0 : Int) (r1 : List Int) (r2 : Bool) (w : World) (hA1 : Kd.C (Kd.slice 3 (Kd.int .i64)) w A1 A.length A) (hF1 : Kd.C (Kd.int .i64) w A2 F.length F) (hc2 : F.length ≤ c2) (hB1 : Kd.C (Kd.slice 3 (Kd.int .i64)) w B1 B.length B) (hG1 : Kd.C (Kd.int .i64) w B2 G.length G) (hd2 : G.length ≤ d2) (hT : TwoOk L A B) (hV : VP A B (i0, k0)) (hR : findP kind F G (bfsP A B i0 k0).1 (bfsP A B i0 k0).2 = (r1, r2)) :
    Calls Try.prog 31 #[.int .i64 kind, .agg #[.int .i64 L, .slice A1 A.length c1, .slice A2 F.length c2], .agg #[.int .i64 L2, .slice B1 B.length d1, .slice B2 G.length d2], .int .i64 i0, .int .i64 k0] w fun e w' => ∃ v0_ : Value, e = .returned (.tuple #[v0_, .bool r2]) ∧ Kd.R (Kd.int .i64) 3 w' w.heap.size (fun _ => True) v0_ r1 ∧ Below w.heap.size w w' := by
  have hu29 := Try.underlying29
  have HA1 := Aside0.mk hA1
  have HF1 := Aside0.mk hF1
  have HCF := Aside0.mk hc2
  have HB1 := Aside0.mk hB1
  have HG1 := Aside0.mk hG1
  have HCG := Aside0.mk hd2
  have HT := Aside0.mk hT
  have HV := Aside0.mk hV
  have hFm : F.length ≤ 9223372036854775807 := hF1.2.1
  have hGm : G.length ≤ 9223372036854775807 := hG1.2.1
  have H := Aside0.mk hR
  obtain ⟨S, hS⟩ : ∃ S, S = (bfsP A B i0 k0).1 := ⟨_, rfl⟩
  obtain ⟨X, hX⟩ : ∃ X, X = (bfsP A B i0 k0).2 := ⟨_, rfl⟩
  have hSX : X.length = S.length := by rw [hS, hX]; exact (bfsP_end hT hV).1.len
  have hS144 : S.length ≤ 144 := by
    have h1 := (bfsP_end hT hV).1.shortP
    have h2 := mul_144 hT.2.1.1.2 hT.2.2.1.2
    rw [hS]; omega
  rw [← hS, ← hX] at H
  have HSE := Aside0.mk hS
  have HXE := Aside0.mk hX
  have hsz1 : (w.alloc (.cells #[.int .i64 L, .slice A1 A.length c1, .slice A2 F.length c2] 29)).heap.size = w.heap.size + 1 := Array.size_push _
  have B0 := Aside0.mk (blk_alloc (blk_new w (.cells #[.int .i64 L, .slice A1 A.length c1, .slice A2 F.length c2] 29)) (.cells #[.int .i64 L2, .slice B1 B.length d1, .slice B2 G.length d2] 29))
  have B1_ := Aside0.mk (blk_new (w.alloc (.cells #[.int .i64 L, .slice A1 A.length c1, .slice A2 F.length c2] 29)) (.cells #[.int .i64 L2, .slice B1 B.length d1, .slice B2 G.length d2] 29))
  rw [hsz1] at B1_
  have HB0 := Aside0.mk (below_alloc (below_alloc (Below.refl w.heap.size w) (.cells #[.int .i64 L, .slice A1 A.length c1, .slice A2 F.length c2] 29)) (.cells #[.int .i64 L2, .slice B1 B.length d1, .slice B2 G.length d2] 29))
  have z0 : ∀ i, i < 3 → ((w.alloc (.cells #[.int .i64 L, .slice A1 A.length c1, .slice A2 F.length c2] 29)).alloc (.cells #[.int .i64 L2, .slice B1 B.length d1, .slice B2 G.length d2] 29)).cell? ⟨w.heap.size, i, none⟩ = #[.int .i64 L, .slice A1 A.length c1, .slice A2 F.length c2][i]? := fun i _ => blk_cell B0.out i
  have y0 := z0 0 (by omega)
  have y1 := z0 1 (by omega)
  have y2 := z0 2 (by omega)
  clear hA1 hF1 hc2 hB1 hG1 hd2 hT hV hR hS hX hsz1 z0
  go_enter Try.func31, Try.ntmps31
  go_wp2_with fail
  refine (eqPairs_walk L _ c1 A _ c2 F L2 _ d1 B _ d2 G i0 k0 _ (Kd.C_below HA1.out HB0.out) (Kd.C_below HB1.out HB0.out) HT.out HV.out).mono ?_
  rintro e w2 ⟨v12, v13, rfl, hP, hX, hb⟩
  rw [← HSE.out] at hP
  rw [← HXE.out] at hX
  obtain ⟨P, hPE⟩ : ∃ P, P = rep S := ⟨_, rfl⟩
  have hPl : P.length = S.length := by rw [hPE]; exact rep_length _
  rw [← hPE] at hP
  have HPE := Aside0.mk hPE
  have HP2 := Aside0.mk (Kd.R_lower hP HB0.out.size)
  have HX2 := Aside0.mk (Kd.R_lower hX HB0.out.size)
  have HB2 := Aside0.mk (below_step HB0.out hb)
  have B02 := Aside0.mk (blk_below B0.out hb)
  have B12 := Aside0.mk (blk_below B1_.out hb)
  obtain ⟨A12, c12, e12⟩ := Kd.R_slice hP
  subst e12
  obtain ⟨A13, c13, e13⟩ := Kd.R_slice hX
  subst e13
  have HPL := Aside0.mk hPl
  have hPS : S.length ≤ P.length := by omega
  have hPS2 : P.length ≤ S.length := by omega
  clear hb hP hX HB0 B0 B1_ y0 y1 y2 hPE hPl
  go_wp2_with fail
  go_loopw [26] (fun v26 wr => ∃ i : Nat, i ≤ S.length ∧ v26 = .int .i64 i ∧ Aside0 (findP kind F G (S.drop i) (X.drop i) = (r1, r2)) ∧ Aside0 (Kd.R (Kd.slice 3 (Kd.int .i64)) 23 wr w.heap.size (fun k => some k ≠ (Value.slice A13 X.length c13).ownBlock) (.slice A12 P.length c12) P) ∧ Aside0 (Kd.R (Kd.slice 3 (Kd.int .i64)) 23 wr w.heap.size (fun k => some k ≠ (Value.slice A12 P.length c12).ownBlock) (.slice A13 X.length c13) X) ∧ Aside0 (wr.heap[w.heap.size]? = some (.cells #[.int .i64 L, .slice A1 A.length c1, .slice A2 F.length c2] 29 (0, 0))) ∧ Aside0 (wr.heap[w.heap.size + 1]? = some (.cells #[.int .i64 L2, .slice B1 B.length d1, .slice B2 G.length d2] 29 (0, 0))) ∧ Aside0 (Below w.heap.size w wr)) (fun i _ => S.length - (intOf i).toNat)
  case atStart => exact ⟨0, Nat.zero_le _, rfl, ⟨by simpa using H.out⟩, HP2, HX2, B02, B12, HB2⟩
  case round =>
    clear HP2 HX2 HB2 B02 B12 H
    obtain ⟨i, hi, rfl, H, HP, HX, B0, B1_, HB⟩ := hrel
    have z2 : wr.cell? ⟨w.heap.size, 2, none⟩ = some (.slice A2 F.length c2) := (blk_cell B0.out 2).trans rfl
    have z3 : wr.cell? ⟨w.heap.size + 1, 2, none⟩ = some (.slice B2 G.length d2) := (blk_cell B1_.out 2).trans rfl
    by_cases hlt : i < S.length
    · obtain ⟨⟨a, b⟩, hs⟩ : ∃ s, S[i]? = some s := ⟨_, List.getElem?_eq_getElem hlt⟩
      obtain ⟨x, hx⟩ : ∃ x, X[i]? = some x := ⟨_, List.getElem?_eq_getElem (by omega)⟩
      have h := H.out
      rw [findP_at kind F G hs hx] at h
      have hrow : P.getD i [] = [a, b] := by rw [HPE.out, rep]; simp [List.getD_eq_getElem?_getD, hs]
      have hrowX : X.getD i [] = x := by simp [List.getD_eq_getElem?_getD, hx]
      obtain ⟨ad12, _, _, ea, -⟩ := at_L1 (Kd.R_reads' HP.out).2.2 (i : Int) (by omega) (by omega)
      subst ea
      obtain ⟨ad13, _, _, ea, -⟩ := at_L1 (Kd.R_reads' HX.out).2.2 (i : Int) (by omega) (by omega)
      subst ea
      obtain ⟨g12, e12⟩ := Kd.R_head HP.out
      subst e12
      obtain ⟨g13, e13⟩ := Kd.R_head HX.out
      subst e13
      obtain ⟨ce, hce, hMe, hcc, _⟩ := Kd.R_elem HP.out [] (i : Int) (by omega) (by omega)
      obtain ⟨ve, rfl, hve⟩ := hMe
      have hxe := hcc 0 ve rfl
      simp only [show (Kd.slice 3 (Kd.int .i64)).sz = 1 from rfl, Int.toNat_natCast, Nat.mul_one, Nat.add_zero] at hxe hve
      rw [hrow] at hve
      obtain ⟨gp, cp, evp, _, _, _⟩ := Kd.R_form hve (by simp)
      replace evp : ve = .slice (some ⟨gp, 0, none⟩) 2 cp := evp
      subst evp
      have yp0 : wr.cell? ⟨gp, 0, none⟩ = some (.int .i64 a) := (Kd.R_celln 0 hve (0 : Int) (by omega) (by omega)).1
      have yp1 : wr.cell? ⟨gp, 1, none⟩ = some (.int .i64 b) := (Kd.R_celln 0 hve (1 : Int) (by omega) (by omega)).1
      obtain ⟨cf, hcf, hMf, hcg, _⟩ := Kd.R_elem HX.out [] (i : Int) (by omega) (by omega)
      obtain ⟨vf, rfl, hvf⟩ := hMf
      have hxf := hcg 0 vf rfl
      simp only [show (Kd.slice 3 (Kd.int .i64)).sz = 1 from rfl, Int.toNat_natCast, Nat.mul_one, Nat.add_zero] at hxf hvf
      rw [hrowX] at hvf
      obtain ⟨Af, cf_, ef⟩ := Kd.R_slice hvf
      subst ef
      have HVF := Aside0.mk hvf
      obtain ⟨K1, hK1⟩ := l1Has F a hFm
      obtain ⟨K2, hK2⟩ := l1Has G b hGm
      obtain ⟨bf, hbf⟩ : ∃ t, t = decide (a ∈ F) := ⟨_, rfl⟩
      obtain ⟨bg, hbg⟩ : ∃ t, t = decide (b ∈ G) := ⟨_, rfl⟩
      have HK1 : Aside0 (spec_l1Has.f K1 F a = some bf) := ⟨by rw [hbf]; exact hK1 K1 (Nat.le_refl _)⟩
      have HK2 : Aside0 (spec_l1Has.f K2 G b = some bg) := ⟨by rw [hbg]; exact hK2 K2 (Nat.le_refl _)⟩
      simp only at h
      rw [← hbf, ← hbg] at h
      have HIS := Aside0.mk (eqIs kind bf bg)
      clear hbf hbg hK1 hK2 hvf hcf hcg hve hce hcc hrow hrowX hs hx
      by_cases hm : isK kind bf bg = true
      · rw [if_pos hm] at h
        simp only [Prod.mk.injEq] at h
        obtain ⟨rfl, rfl⟩ := h
        have HIS2 : Aside0 (spec_eqIs.f kind bf bg = some true) := ⟨by rw [HIS.out, hm]⟩
        clear hm HIS
        go_wp2
        repeat (go_quiet (first | (go_at_call 41; (with_reducible refine (spec_l1Has.calls K1 _ _ F a bf _ (Kd.C_below HF1.out (below_step HB.out (by repeat (first | with_reducible exact Below.refl _ _ | with_reducible apply below_alloc | with_reducible apply pw_below_drewN | with_reducible apply below_drew1)))) HCF.out HK1.out).mono ?_); rintro e w' ⟨rfl, ⟨nd, rfl⟩⟩; (try first | exact ⟨rfl, _, World.drewN_drewN _ _ _⟩ | exact ⟨rfl, _, Eq.trans (World.drewN_drewN _ _ _) (congrArg (World.drewN _) (Nat.add_assoc _ _ _))⟩)) | (go_at_call 41; (with_reducible refine (spec_l1Has.calls K2 _ _ G b bg _ (Kd.C_below HG1.out (below_step HB.out (by repeat (first | with_reducible exact Below.refl _ _ | with_reducible apply below_alloc | with_reducible apply pw_below_drewN | with_reducible apply below_drew1)))) HCG.out HK2.out).mono ?_); rintro e w' ⟨rfl, ⟨nd, rfl⟩⟩; (try first | exact ⟨rfl, _, World.drewN_drewN _ _ _⟩ | exact ⟨rfl, _, Eq.trans (World.drewN_drewN _ _ _) (congrArg (World.drewN _) (Nat.add_assoc _ _ _))⟩)) | (go_at_call 40; (with_reducible refine (spec_eqIs.calls kind bf bg true _ HIS2.out).mono ?_); rintro e w' ⟨rfl, ⟨nd, rfl⟩⟩; (try first | exact ⟨rfl, _, World.drewN_drewN _ _ _⟩ | exact ⟨rfl, _, Eq.trans (World.drewN_drewN _ _ _) (congrArg (World.drewN _) (Nat.add_assoc _ _ _))⟩))); try go_wp2)
        go_ret2
        exact ⟨_, rfl, Kd.R_mono (Kd.R_below HVF.out (by repeat (first | with_reducible exact Below.refl _ _ | with_reducible apply below_alloc | with_reducible apply pw_below_drewN | with_reducible apply below_drew1))) (fun _ _ => trivial), below_step HB.out (by repeat (first | with_reducible exact Below.refl _ _ | with_reducible apply below_alloc | with_reducible apply pw_below_drewN | with_reducible apply below_drew1))⟩
      · rw [if_neg hm] at h
        have HIS2 : Aside0 (spec_eqIs.f kind bf bg = some false) := ⟨by rw [HIS.out, Bool.eq_false_iff.mpr hm]⟩
        have H := Aside0.mk h
        clear hm HIS h
        go_wp2
        repeat (go_quiet (first | (go_at_call 41; (with_reducible refine (spec_l1Has.calls K1 _ _ F a bf _ (Kd.C_below HF1.out (below_step HB.out (by repeat (first | with_reducible exact Below.refl _ _ | with_reducible apply below_alloc | with_reducible apply pw_below_drewN | with_reducible apply below_drew1)))) HCF.out HK1.out).mono ?_); rintro e w' ⟨rfl, ⟨nd, rfl⟩⟩; (try first | exact ⟨rfl, _, World.drewN_drewN _ _ _⟩ | exact ⟨rfl, _, Eq.trans (World.drewN_drewN _ _ _) (congrArg (World.drewN _) (Nat.add_assoc _ _ _))⟩)) | (go_at_call 41; (with_reducible refine (spec_l1Has.calls K2 _ _ G b bg _ (Kd.C_below HG1.out (below_step HB.out (by repeat (first | with_reducible exact Below.refl _ _ | with_reducible apply below_alloc | with_reducible apply pw_below_drewN | with_reducible apply below_drew1)))) HCG.out HK2.out).mono ?_); rintro e w' ⟨rfl, ⟨nd, rfl⟩⟩; (try first | exact ⟨rfl, _, World.drewN_drewN _ _ _⟩ | exact ⟨rfl, _, Eq.trans (World.drewN_drewN _ _ _) (congrArg (World.drewN _) (Nat.add_assoc _ _ _))⟩)) | (go_at_call 40; (with_reducible refine (spec_eqIs.calls kind bf bg false _ HIS2.out).mono ?_); rintro e w' ⟨rfl, ⟨nd, rfl⟩⟩; (try first | exact ⟨rfl, _, World.drewN_drewN _ _ _⟩ | exact ⟨rfl, _, Eq.trans (World.drewN_drewN _ _ _) (congrArg (World.drewN _) (Nat.add_assoc _ _ _))⟩))); try go_wp2)
        go_roundw
        case rel => exact ⟨i + 1, by omega, by go_num, H, ⟨Kd.R_below HP.out (by repeat (first | with_reducible exact Below.refl _ _ | with_reducible apply below_alloc | with_reducible apply pw_below_drewN | with_reducible apply below_drew1))⟩, ⟨Kd.R_below HX.out (by repeat (first | with_reducible exact Below.refl _ _ | with_reducible apply below_alloc | with_reducible apply pw_below_drewN | with_reducible apply below_drew1))⟩, ⟨blk_below B0.out (by repeat (first | with_reducible exact Below.refl _ _ | with_reducible apply below_alloc | with_reducible apply pw_below_drewN | with_reducible apply below_drew1))⟩, ⟨blk_below B1_.out (by repeat (first | with_reducible exact Below.refl _ _ | with_reducible apply below_alloc | with_reducible apply pw_below_drewN | with_reducible apply below_drew1))⟩, ⟨below_step HB.out (by repeat (first | with_reducible exact Below.refl _ _ | with_reducible apply below_alloc | with_reducible apply pw_below_drewN | with_reducible apply below_drew1))⟩⟩
        case measure => simp [intOf]; omega
    · have h := H.out
      obtain rfl : i = S.length := by omega
      rw [show S.drop S.length = [] by simp, findP] at h
      · simp only [Prod.mk.injEq] at h
        obtain ⟨rfl, rfl⟩ := h
        have hpp : ¬ S.length < P.length := by omega
        go_wp2
        go_ret2
        exact ⟨_, rfl, Kd.R_nil _ _ _ _ _, HB.out⟩
      · simp
theorem spec_eqWord.calls (k : Nat) (a0 : Int) (a1_0 : Int) (A1_1 : Option Addr) (c1_1 : Nat) (l1_1 : List (List Int)) (A1_2 : Option Addr) (c1_2 : Nat) (l1_2 : List Int) (a2_0 : Int) (A2_1 : Option Addr) (c2_1 : Nat) (l2_1 : List (List Int)) (A2_2 : Option Addr) (c2_2 : Nat) (l2_2 : List Int) (a3 : Int) (a4 : Int) (r1 : List Int) (r2 : Bool) (w : World) (hr1_1 : Kd.C (Kd.slice 3 (Kd.int .i64)) w A1_1 l1_1.length l1_1) (hc1_1 : l1_1.length ≤ c1_1) (hr1_2 : Kd.C (Kd.int .i64) w A1_2 l1_2.length l1_2) (hc1_2 : l1_2.length ≤ c1_2) (hr2_1 : Kd.C (Kd.slice 3 (Kd.int .i64)) w A2_1 l2_1.length l2_1) (hc2_1 : l2_1.length ≤ c2_1) (hr2_2 : Kd.C (Kd.int .i64) w A2_2 l2_2.length l2_2) (hc2_2 : l2_2.length ≤ c2_2) (h : spec_eqWord.f k a0 a1_0 l1_1 l1_2 a2_0 l2_1 l2_2 a3 a4 = some (r1, r2)) :
    Calls Try.prog 31 #[.int .i64 a0, .agg #[.int .i64 a1_0, .slice A1_1 l1_1.length c1_1, .slice A1_2 l1_2.length c1_2], .agg #[.int .i64 a2_0, .slice A2_1 l2_1.length c2_1, .slice A2_2 l2_2.length c2_2], .int .i64 a3, .int .i64 a4] w fun e w' => ∃ v0_ : Value, e = .returned (.tuple #[v0_, .bool r2]) ∧ Kd.V (Kd.int .i64) 3 w' w.heap.size (fun k_ => (w.heap.size ≤ k_)) v0_ r1 ∧ Below w.heap.size w w' := by
  unfold spec_eqWord.f at h
  by_cases c : (TwoOk a1_0 l1_1 l2_1 ∧ VP l1_1 l2_1 (a3, a4)) ∧ l1_2.length ≤ maxLen ∧ l2_2.length ≤ maxLen
  · rw [if_pos c] at h
    replace h := Option.some.inj h
    refine (eqWord_walk a0 a1_0 _ c1_1 l1_1 _ c1_2 l1_2 a2_0 _ c2_1 l2_1 _ c2_2 l2_2 a3 a4 r1 r2 w hr1_1 hr1_2 hc1_2 hr2_1 hr2_2 hc2_2 c.1.1 c.1.2 h).mono ?_
    rintro e w' ⟨v0, rfl, h0, hb⟩
    exact ⟨v0, rfl, Kd.R_V (base := w.heap.size) (Kd.R_mono (Kd.R_bound h0) (fun k hk => hk.2.1)), hb⟩
  · rw [if_neg c] at h; simp at h
end Go.Proofs.Ytadhbepoblllhaa.P
