/- The walks of the program's pairAccepts and firstOfKind (printed by gen_fp.py). -/
import Derived.Test.YtadhbepoblllhaaYFnExactEqualStatesPx22
import Derived.Test.YtadhbepoblllhaaYFnExactEqualStatesVFirstP
import Derived.Test.YtadhbepoblllhaaYFnExactEqualStatesAWord0
import Derived.Test.YtadhbepoblllhaaYFnExactEqualStatesABase
namespace Go.Proofs.Ytadhbepoblllhaa.P
open Go.RowKit Go.Proofs.YtadhbepoblllhaaW.PrintWords Go.Proofs.YtadhbepoblllhaaW.PrintLast Go.Proofs.YtadhbepoblllhaaW.PrintMore Go.Proofs.Ytadhbepoblllhaa.Own Go.Proofs.Ytadhbepoblllhaa.A
set_option linter.unusedVariables false
set_option linter.unusedSimpArgs false
set_option maxHeartbeats 4000000 in
set_option maxRecDepth 100000 in
theorem pairAccepts_own (kind : Int) (L : Int) (A1 : Option Addr) (c1 : Nat) (A : List (List Int)) (A2 : Option Addr) (c2 : Nat) (F : List Int) (L2 : Int) (B1 : Option Addr) (d1 : Nat) (B : List (List Int)) (B2 : Option Addr) (d2 : Nat) (G : List Int) (a b : Int) (r : Bool) (w : World) (hF : Kd.C (Kd.int .i64) w A2 F.length F) (hc2 : F.length ≤ c2) (hG : Kd.C (Kd.int .i64) w B2 G.length G) (hd2 : G.length ≤ d2) (hr : isK kind (decide (a ∈ F)) (decide (b ∈ G)) = r) :
    Calls Try.prog 43 #[.int .i64 kind, .agg #[.int .i64 L, .slice A1 A.length c1, .slice A2 F.length c2], .agg #[.int .i64 L2, .slice B1 B.length d1, .slice B2 G.length d2], .agg #[.int .i64 a, .int .i64 b]] w fun e w' => e = .returned (.bool r) ∧ Below w.heap.size w w' := by
  have hu29 := Try.underlying29
  have hu59 := Try.underlying59
  have hFm : F.length ≤ 9223372036854775807 := hF.2.1
  have hGm : G.length ≤ 9223372036854775807 := hG.2.1
  obtain ⟨K1, hK1⟩ := contains F a (by simp only [maxLen]; omega)
  obtain ⟨K2, hK2⟩ := contains G b (by simp only [maxLen]; omega)
  obtain ⟨bf, hbf⟩ : ∃ t, t = decide (a ∈ F) := ⟨_, rfl⟩
  obtain ⟨bg, hbg⟩ : ∃ t, t = decide (b ∈ G) := ⟨_, rfl⟩
  have HK1 : Aside0 (slices_Contains_int_int.f K1 F a = some bf) := ⟨by rw [hbf]; exact hK1 K1 (Nat.le_refl _)⟩
  have HK2 : Aside0 (slices_Contains_int_int.f K2 G b = some bg) := ⟨by rw [hbg]; exact hK2 K2 (Nat.le_refl _)⟩
  rw [← hbf, ← hbg] at hr
  have HR := Aside0.mk hr
  have HF := Aside0.mk hF
  have HG := Aside0.mk hG
  have HC2 := Aside0.mk hc2
  have HD2 := Aside0.mk hd2
  have HB0 := Aside0.mk (Below.refl w.heap.size w)
  clear hK1 hK2 hbf hbg hr hF hG hc2 hd2
  by_cases k1 : kind = 1
  · have HR : Aside0 ((bf && bg) = r) := ⟨by have h_ := HR.out; rw [isK, if_pos k1] at h_; exact h_⟩
    subst k1
    cases bf <;> cases bg <;> (obtain ⟨rfl⟩ := HR.out; (
      go_enter Try.func43, Try.ntmps43
      go_wp2_with (first
        | (go_at_call 47; (with_reducible refine (slices_Contains_int_int.calls K1 _ _ F a _ _ (Kd.C_below HF.out (by repeat (first | with_reducible exact Below.refl _ _ | with_reducible apply below_alloc | with_reducible apply pw_below_drewN | with_reducible apply below_drew1))) HC2.out HK1.out).mono ?_); rintro e w' ⟨rfl, ⟨nd, rfl⟩⟩)
        | (go_at_call 47; (with_reducible refine (slices_Contains_int_int.calls K2 _ _ G b _ _ (Kd.C_below HG.out (by repeat (first | with_reducible exact Below.refl _ _ | with_reducible apply below_alloc | with_reducible apply pw_below_drewN | with_reducible apply below_drew1))) HD2.out HK2.out).mono ?_); rintro e w' ⟨rfl, ⟨nd, rfl⟩⟩)
        | fail)
      go_ret
      exact ⟨rfl, (by repeat (first | with_reducible exact Below.refl _ _ | with_reducible apply below_alloc | with_reducible apply pw_below_drewN | with_reducible apply below_drew1))⟩))
  by_cases k2 : kind = 2
  · have HR : Aside0 ((bf || bg) = r) := ⟨by have h_ := HR.out; rw [isK, if_neg k1, if_pos k2] at h_; exact h_⟩
    subst k2
    clear k1
    cases bf <;> cases bg <;> (obtain ⟨rfl⟩ := HR.out; (
      go_enter Try.func43, Try.ntmps43
      go_wp2_with (first
        | (go_at_call 47; (with_reducible refine (slices_Contains_int_int.calls K1 _ _ F a _ _ (Kd.C_below HF.out (by repeat (first | with_reducible exact Below.refl _ _ | with_reducible apply below_alloc | with_reducible apply pw_below_drewN | with_reducible apply below_drew1))) HC2.out HK1.out).mono ?_); rintro e w' ⟨rfl, ⟨nd, rfl⟩⟩)
        | (go_at_call 47; (with_reducible refine (slices_Contains_int_int.calls K2 _ _ G b _ _ (Kd.C_below HG.out (by repeat (first | with_reducible exact Below.refl _ _ | with_reducible apply below_alloc | with_reducible apply pw_below_drewN | with_reducible apply below_drew1))) HD2.out HK2.out).mono ?_); rintro e w' ⟨rfl, ⟨nd, rfl⟩⟩)
        | fail)
      go_ret
      exact ⟨rfl, (by repeat (first | with_reducible exact Below.refl _ _ | with_reducible apply below_alloc | with_reducible apply pw_below_drewN | with_reducible apply below_drew1))⟩))
  by_cases k3 : kind = 3
  · have HR : Aside0 ((bf != bg) = r) := ⟨by have h_ := HR.out; rw [isK, if_neg k1, if_neg k2, if_pos k3] at h_; exact h_⟩
    subst k3
    clear k1 k2
    cases bf <;> cases bg <;> (obtain ⟨rfl⟩ := HR.out; (
      go_enter Try.func43, Try.ntmps43
      go_wp2_with (first
        | (go_at_call 47; (with_reducible refine (slices_Contains_int_int.calls K1 _ _ F a _ _ (Kd.C_below HF.out (by repeat (first | with_reducible exact Below.refl _ _ | with_reducible apply below_alloc | with_reducible apply pw_below_drewN | with_reducible apply below_drew1))) HC2.out HK1.out).mono ?_); rintro e w' ⟨rfl, ⟨nd, rfl⟩⟩)
        | (go_at_call 47; (with_reducible refine (slices_Contains_int_int.calls K2 _ _ G b _ _ (Kd.C_below HG.out (by repeat (first | with_reducible exact Below.refl _ _ | with_reducible apply below_alloc | with_reducible apply pw_below_drewN | with_reducible apply below_drew1))) HD2.out HK2.out).mono ?_); rintro e w' ⟨rfl, ⟨nd, rfl⟩⟩)
        | fail)
      go_ret
      exact ⟨rfl, (by repeat (first | with_reducible exact Below.refl _ _ | with_reducible apply below_alloc | with_reducible apply pw_below_drewN | with_reducible apply below_drew1))⟩))
  have e1 : (kind == 1) = false := by simpa using k1
  have e2 : (kind == 2) = false := by simpa using k2
  have e3 : (kind == 3) = false := by simpa using k3
  have HR : Aside0 ((bf && !bg) = r) := ⟨by have h_ := HR.out; rw [isK, if_neg k1, if_neg k2, if_neg k3] at h_; exact h_⟩
  clear k1 k2 k3
  cases bf <;> cases bg <;> (obtain ⟨rfl⟩ := HR.out; (
    go_enter Try.func43, Try.ntmps43
    go_wp2_with (first
      | (go_at_call 47; (with_reducible refine (slices_Contains_int_int.calls K1 _ _ F a _ _ (Kd.C_below HF.out (by repeat (first | with_reducible exact Below.refl _ _ | with_reducible apply below_alloc | with_reducible apply pw_below_drewN | with_reducible apply below_drew1))) HC2.out HK1.out).mono ?_); rintro e w' ⟨rfl, ⟨nd, rfl⟩⟩)
      | (go_at_call 47; (with_reducible refine (slices_Contains_int_int.calls K2 _ _ G b _ _ (Kd.C_below HG.out (by repeat (first | with_reducible exact Below.refl _ _ | with_reducible apply below_alloc | with_reducible apply pw_below_drewN | with_reducible apply below_drew1))) HD2.out HK2.out).mono ?_); rintro e w' ⟨rfl, ⟨nd, rfl⟩⟩)
      | fail)
    go_ret
    exact ⟨rfl, (by repeat (first | with_reducible exact Below.refl _ _ | with_reducible apply below_alloc | with_reducible apply pw_below_drewN | with_reducible apply below_drew1))⟩))
set_option maxHeartbeats 4000000 in
set_option maxRecDepth 100000 in
theorem firstOfKind_own (kind : Int) (L : Int) (A1 : Option Addr) (c1 : Nat) (A : List (List Int)) (A2 : Option Addr) (c2 : Nat) (F : List Int) (L2 : Int) (B1 : Option Addr) (d1 : Nat) (B : List (List Int)) (B2 : Option Addr) (d2 : Nat) (G : List Int) (i0 k0 : Int) (r1 : List Int) (r2 : Bool) (w : World) (hA1 : Kd.C (Kd.slice 3 (Kd.int .i64)) w A1 A.length A) (hF1 : Kd.C (Kd.int .i64) w A2 F.length F) (hc2 : F.length ≤ c2) (hB1 : Kd.C (Kd.slice 3 (Kd.int .i64)) w B1 B.length B) (hG1 : Kd.C (Kd.int .i64) w B2 G.length G) (hd2 : G.length ≤ d2) (hT : TwoOk L A B) (hV : VP A B (i0, k0)) (hR : findP kind F G (bfsP A B i0 k0).1 (bfsP A B i0 k0).2 = (r1, r2)) :
    Calls Try.prog 35 #[.int .i64 kind, .agg #[.int .i64 L, .slice A1 A.length c1, .slice A2 F.length c2], .agg #[.int .i64 L2, .slice B1 B.length d1, .slice B2 G.length d2], .int .i64 i0, .int .i64 k0] w fun e w' => ∃ v0_ : Value, e = .returned (.tuple #[v0_, .bool r2]) ∧ Kd.R (Kd.int .i64) 3 w' w.heap.size (fun _ => True) v0_ r1 ∧ Below w.heap.size w w' := by
  have hu29 := Try.underlying29
  have hu59 := Try.underlying59
  have HA1 := Aside0.mk hA1
  have HF1 := Aside0.mk hF1
  have HCF := Aside0.mk hc2
  have HB1 := Aside0.mk hB1
  have HG1 := Aside0.mk hG1
  have HCG := Aside0.mk hd2
  have HT := Aside0.mk hT
  have HV := Aside0.mk hV
  have H := Aside0.mk hR
  obtain ⟨S, hS⟩ : ∃ S, S = (bfsP A B i0 k0).1 := ⟨_, rfl⟩
  obtain ⟨X, hX⟩ : ∃ X, X = (bfsP A B i0 k0).2 := ⟨_, rfl⟩
  have hSX : X.length = S.length := by rw [hS, hX]; exact (bfsP_end hT hV).1.len
  have hS144 : S.length ≤ 144 := by
    have h1 := (bfsP_end hT hV).1.shortP
    have h2 := mul_144 hT.2.1.1.2 hT.2.2.1.2
    rw [hS]; omega
  rw [← hS, ← hX] at H
  have HSE := Aside0.mk hS
  have HXE := Aside0.mk hX
  have hsz1 : (w.alloc (.cells #[.int .i64 L, .slice A1 A.length c1, .slice A2 F.length c2] 29)).heap.size = w.heap.size + 1 := Array.size_push _
  have B0 := Aside0.mk (blk_alloc (blk_new w (.cells #[.int .i64 L, .slice A1 A.length c1, .slice A2 F.length c2] 29)) (.cells #[.int .i64 L2, .slice B1 B.length d1, .slice B2 G.length d2] 29))
  have B1_ := Aside0.mk (blk_new (w.alloc (.cells #[.int .i64 L, .slice A1 A.length c1, .slice A2 F.length c2] 29)) (.cells #[.int .i64 L2, .slice B1 B.length d1, .slice B2 G.length d2] 29))
  rw [hsz1] at B1_
  have HB0 := Aside0.mk (below_alloc (below_alloc (Below.refl w.heap.size w) (.cells #[.int .i64 L, .slice A1 A.length c1, .slice A2 F.length c2] 29)) (.cells #[.int .i64 L2, .slice B1 B.length d1, .slice B2 G.length d2] 29))
  clear hA1 hF1 hc2 hB1 hG1 hd2 hT hV hR hS hX hsz1
  go_enter Try.func35, Try.ntmps35
  go_wp2_with fail
  refine (firstPairs_own L _ c1 A _ c2 F L2 _ d1 B _ d2 G i0 k0 _ (Kd.C_below HA1.out HB0.out) (Kd.C_below HB1.out HB0.out) HT.out HV.out).mono ?_
  rintro e w2 ⟨v12, v13, rfl, hP, hX, hb⟩
  rw [← HSE.out] at hP
  rw [← HXE.out] at hX
  have HP2 := Aside0.mk (Kd.R_lower hP HB0.out.size)
  have HX2 := Aside0.mk (Kd.R_lower hX HB0.out.size)
  have HB2 := Aside0.mk (below_step HB0.out hb)
  have B02 := Aside0.mk (blk_below B0.out hb)
  have B12 := Aside0.mk (blk_below B1_.out hb)
  obtain ⟨A12, c12, e12⟩ := Kd.R_slice hP
  subst e12
  obtain ⟨A13, c13, e13⟩ := Kd.R_slice hX
  subst e13
  clear hb hP hX HB0 B0 B1_
  go_wp2_with fail
  go_loopw [26] (fun v26 wr => ∃ i : Nat, i ≤ S.length ∧ v26 = .int .i64 i ∧ Aside0 (findP kind F G (S.drop i) (X.drop i) = (r1, r2)) ∧ Aside0 (Kd.R kPr 59 wr w.heap.size (fun _ => True) (.slice A12 S.length c12) S) ∧ Aside0 (Kd.R (Kd.slice 3 (Kd.int .i64)) 23 wr w.heap.size (fun _ => True) (.slice A13 X.length c13) X) ∧ Aside0 (wr.heap[w.heap.size]? = some (.cells #[.int .i64 L, .slice A1 A.length c1, .slice A2 F.length c2] 29 (0, 0))) ∧ Aside0 (wr.heap[w.heap.size + 1]? = some (.cells #[.int .i64 L2, .slice B1 B.length d1, .slice B2 G.length d2] 29 (0, 0))) ∧ Aside0 (Below w.heap.size w wr)) (fun i _ => S.length - (intOf i).toNat)
  case atStart => exact ⟨0, Nat.zero_le _, rfl, ⟨by simpa using H.out⟩, HP2, HX2, B02, B12, HB2⟩
  case round =>
    clear HP2 HX2 HB2 B02 B12 H
    obtain ⟨i, hi, rfl, H, HP, HX, B0, B1_, HB⟩ := hrel
    have y0 : wr.cell? ⟨w.heap.size, 0, none⟩ = some (.int .i64 L) := (blk_cell B0.out 0).trans rfl
    have y1 : wr.cell? ⟨w.heap.size, 1, none⟩ = some (.slice A1 A.length c1) := (blk_cell B0.out 1).trans rfl
    have y2 : wr.cell? ⟨w.heap.size, 2, none⟩ = some (.slice A2 F.length c2) := (blk_cell B0.out 2).trans rfl
    have z0 : wr.cell? ⟨w.heap.size + 1, 0, none⟩ = some (.int .i64 L2) := (blk_cell B1_.out 0).trans rfl
    have z1 : wr.cell? ⟨w.heap.size + 1, 1, none⟩ = some (.slice B1 B.length d1) := (blk_cell B1_.out 1).trans rfl
    have z2 : wr.cell? ⟨w.heap.size + 1, 2, none⟩ = some (.slice B2 G.length d2) := (blk_cell B1_.out 2).trans rfl
    by_cases hlt : i < S.length
    · obtain ⟨⟨a, b⟩, hs⟩ : ∃ s, S[i]? = some s := ⟨_, List.getElem?_eq_getElem hlt⟩
      obtain ⟨x, hx⟩ : ∃ x, X[i]? = some x := ⟨_, List.getElem?_eq_getElem (by omega)⟩
      have h := H.out
      rw [findP_at kind F G hs hx] at h
      obtain ⟨g12, c12_, e12, _, _, _⟩ := Kd.R_form HP.out (by omega)
      cases e12
      obtain ⟨ad13, _, _, ea, hx5, _, hCw⟩ := at_L1 (Kd.R_reads' HX.out).2.2 (i : Int) (by omega) (by omega)
      subst ea
      obtain ⟨g13, e13⟩ := Kd.R_head HX.out
      subst e13
      obtain ⟨ce, hce, hMe, hcc, _⟩ := Kd.R_elem HP.out (0, 0) (i : Int) (by omega) (by omega)
      have hce2 := kPr_K (kPr.K_of_M hMe)
      have hgd : S.getD (i : Int).toNat (0, 0) = (a, b) := by simp [List.getD_eq_getElem?_getD, hs]
      rw [hgd] at hce2
      subst hce2
      have s2 : wr.cell? ⟨g12, i * 2, none⟩ = some (.int .i64 a) := hcc 0 _ rfl
      have s3 : wr.cell? ⟨g12, i * 2 + 1, none⟩ = some (.int .i64 b) := hcc 1 _ rfl
      obtain ⟨cf, hcf, hMf, hcg, _⟩ := Kd.R_elem HX.out [] (i : Int) (by omega) (by omega)
      obtain ⟨vf, rfl, hvf⟩ := hMf
      have hxf := hcg 0 vf rfl
      have hrowX : X.getD i [] = x := by simp [List.getD_eq_getElem?_getD, hx]
      simp only [show (Kd.slice 3 (Kd.int .i64)).sz = 1 from rfl, Int.toNat_natCast, Nat.mul_one, Nat.add_zero] at hxf hvf
      rw [hrowX] at hvf
      obtain ⟨Af, cf_, ef⟩ := Kd.R_slice hvf
      subst ef
      have HVF := Aside0.mk hvf
      have HXF := Aside0.mk hxf
      clear hce hcc hMe hgd hcf hcg hvf hrowX hx5 hCw hs hx hxf
      by_cases hm : isK kind (decide (a ∈ F)) (decide (b ∈ G)) = true
      · rw [if_pos hm] at h
        simp only [Prod.mk.injEq] at h
        obtain ⟨rfl, rfl⟩ := h
        have HM := Aside0.mk hm
        clear hm
        clear y0 y1 y2 z0 z1 z2
        have y0 : (wr.alloc (.cells #[.int .i64 a, .int .i64 b] 59)).cell? ⟨w.heap.size, 0, none⟩ = some (.int .i64 L) := (blk_cell (blk_alloc B0.out _) 0).trans rfl
        have y1 : (wr.alloc (.cells #[.int .i64 a, .int .i64 b] 59)).cell? ⟨w.heap.size, 1, none⟩ = some (.slice A1 A.length c1) := (blk_cell (blk_alloc B0.out _) 1).trans rfl
        have y2 : (wr.alloc (.cells #[.int .i64 a, .int .i64 b] 59)).cell? ⟨w.heap.size, 2, none⟩ = some (.slice A2 F.length c2) := (blk_cell (blk_alloc B0.out _) 2).trans rfl
        have z0 : (wr.alloc (.cells #[.int .i64 a, .int .i64 b] 59)).cell? ⟨w.heap.size + 1, 0, none⟩ = some (.int .i64 L2) := (blk_cell (blk_alloc B1_.out _) 0).trans rfl
        have z1 : (wr.alloc (.cells #[.int .i64 a, .int .i64 b] 59)).cell? ⟨w.heap.size + 1, 1, none⟩ = some (.slice B1 B.length d1) := (blk_cell (blk_alloc B1_.out _) 1).trans rfl
        have z2 : (wr.alloc (.cells #[.int .i64 a, .int .i64 b] 59)).cell? ⟨w.heap.size + 1, 2, none⟩ = some (.slice B2 G.length d2) := (blk_cell (blk_alloc B1_.out _) 2).trans rfl
        go_wp2_with (first | ((go_at_call 43; (with_reducible refine (pairAccepts_own kind L _ c1 A _ c2 F L2 _ d1 B _ d2 G a b true _ (Kd.C_below HF1.out (below_step HB.out (below_alloc (Below.refl _ _) _))) HCF.out (Kd.C_below HG1.out (below_step HB.out (below_alloc (Below.refl _ _) _))) HCG.out HM.out).mono ?_); rintro e w3 ⟨rfl, hb⟩; have HBW : Aside0 (Below wr.heap.size wr w3) := ⟨below_step (below_alloc (Below.refl _ _) _) hb⟩; clear hb y0 y1 y2 z0 z1 z2; have hxf := (HBW.out.cell (World.block_lt_of_cell? wr _ HXF.out)).trans HXF.out)) | fail)
        go_ret2
        exact ⟨_, rfl, Kd.R_mono (Kd.R_below HVF.out HBW.out) (fun _ _ => trivial), below_step HB.out HBW.out⟩
      · rw [if_neg hm] at h
        have H := Aside0.mk h
        have HM := Aside0.mk (Bool.eq_false_iff.mpr hm)
        clear hm h
        clear y0 y1 y2 z0 z1 z2
        have y0 : (wr.alloc (.cells #[.int .i64 a, .int .i64 b] 59)).cell? ⟨w.heap.size, 0, none⟩ = some (.int .i64 L) := (blk_cell (blk_alloc B0.out _) 0).trans rfl
        have y1 : (wr.alloc (.cells #[.int .i64 a, .int .i64 b] 59)).cell? ⟨w.heap.size, 1, none⟩ = some (.slice A1 A.length c1) := (blk_cell (blk_alloc B0.out _) 1).trans rfl
        have y2 : (wr.alloc (.cells #[.int .i64 a, .int .i64 b] 59)).cell? ⟨w.heap.size, 2, none⟩ = some (.slice A2 F.length c2) := (blk_cell (blk_alloc B0.out _) 2).trans rfl
        have z0 : (wr.alloc (.cells #[.int .i64 a, .int .i64 b] 59)).cell? ⟨w.heap.size + 1, 0, none⟩ = some (.int .i64 L2) := (blk_cell (blk_alloc B1_.out _) 0).trans rfl
        have z1 : (wr.alloc (.cells #[.int .i64 a, .int .i64 b] 59)).cell? ⟨w.heap.size + 1, 1, none⟩ = some (.slice B1 B.length d1) := (blk_cell (blk_alloc B1_.out _) 1).trans rfl
        have z2 : (wr.alloc (.cells #[.int .i64 a, .int .i64 b] 59)).cell? ⟨w.heap.size + 1, 2, none⟩ = some (.slice B2 G.length d2) := (blk_cell (blk_alloc B1_.out _) 2).trans rfl
        go_wp2_with (first | ((go_at_call 43; (with_reducible refine (pairAccepts_own kind L _ c1 A _ c2 F L2 _ d1 B _ d2 G a b false _ (Kd.C_below HF1.out (below_step HB.out (below_alloc (Below.refl _ _) _))) HCF.out (Kd.C_below HG1.out (below_step HB.out (below_alloc (Below.refl _ _) _))) HCG.out HM.out).mono ?_); rintro e w3 ⟨rfl, hb⟩; have HBW : Aside0 (Below wr.heap.size wr w3) := ⟨below_step (below_alloc (Below.refl _ _) _) hb⟩; clear hb y0 y1 y2 z0 z1 z2; have hxf := (HBW.out.cell (World.block_lt_of_cell? wr _ HXF.out)).trans HXF.out)) | fail)
        go_roundw
        case rel => first | exact ⟨i + 1, by omega, by go_num, H, ⟨Kd.R_below HP.out HBW.out⟩, ⟨Kd.R_below HX.out HBW.out⟩, ⟨blk_below B0.out HBW.out⟩, ⟨blk_below B1_.out HBW.out⟩, ⟨below_step HB.out HBW.out⟩⟩ | (repeat (first | exact ⟨⟨i + 1, by omega, by go_num, H, ⟨Kd.R_below HP.out HBW.out⟩, ⟨Kd.R_below HX.out HBW.out⟩, ⟨blk_below B0.out HBW.out⟩, ⟨blk_below B1_.out HBW.out⟩, ⟨below_step HB.out HBW.out⟩⟩, rfl⟩ | refine ⟨_, ?_⟩))
        case measure => simp [intOf]; omega
    · have h := H.out
      obtain rfl : i = S.length := by omega
      rw [show S.drop S.length = [] by simp, findP] at h
      · simp only [Prod.mk.injEq] at h
        obtain ⟨rfl, rfl⟩ := h
        go_wp2
        go_ret2
        exact ⟨_, rfl, Kd.R_nil _ _ _ _ _, HB.out⟩
      · simp
end Go.Proofs.Ytadhbepoblllhaa.P
