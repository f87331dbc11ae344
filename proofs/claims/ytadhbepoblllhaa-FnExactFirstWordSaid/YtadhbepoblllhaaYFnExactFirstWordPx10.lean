/- The walk of the reference's eqPairs: the pairs of states that are reached together, with their words, as the plain search 'bfsP' finds them. -/
import Derived.Test.YtadhbepoblllhaaYFnExactFirstWordPx9
import Derived.Test.YtadhbepoblllhaaYFnExactFirstWordOwnPrs
import Derived.Test.YtadhbepoblllhaaYFnExactFirstWordAPairs0
import Derived.IntWalk
namespace Go.Proofs.Ytadhbepoblllhaa.P
open Go.RowKit Go.Proofs.YtadhbepoblllhaaW.PrintWords Go.Proofs.YtadhbepoblllhaaW.PrintLast Go.Proofs.YtadhbepoblllhaaW.PrintMore Go.Proofs.Ytadhbepoblllhaa.Own Go.Proofs.Ytadhbepoblllhaa.A
set_option linter.unusedVariables false
set_option linter.unusedSimpArgs false
/-! ### spec_eqPairs: function 39 -/
def spec_eqPairs.f (k : Nat) (a0_0 : Int) (l0_1 : List (List Int)) (l0_2 : List Int) (a1_0 : Int) (l1_1 : List (List Int)) (l1_2 : List Int) (a2 : Int) (a3 : Int) : Option ((List (List Int)) × (List (List Int))) := if TwoOk a0_0 l0_1 l1_1 ∧ VP l0_1 l1_1 (a2, a3) then some (rep (bfsP l0_1 l1_1 a2 a3).1, (bfsP l0_1 l1_1 a2 a3).2) else none
theorem spec_eqPairs.mono : ∀ a0 a1 a2 a3 a4 a5 a6 a7 k, LeO (spec_eqPairs.f k a0 a1 a2 a3 a4 a5 a6 a7) (spec_eqPairs.f (k + 1) a0 a1 a2 a3 a4 a5 a6 a7) := fun _ _ _ _ _ _ _ _ _ r h => h
theorem rep_length (S : List (Int × Int)) : (rep S).length = S.length := by simp [rep]
theorem rep_snoc (S : List (Int × Int)) (t : Int × Int) : rep (S ++ [t]) = rep S ++ [[t.1, t.2]] := by simp [rep]
set_option maxHeartbeats 8000000 in
set_option maxRecDepth 100000 in
theorem eqPairs_walk (L : Int) (A1 : Option Addr) (c1 : Nat) (A : List (List Int)) (A2 : Option Addr) (c2 : Nat) (F : List Int) (L2 : Int) (B1 : Option Addr) (d1 : Nat) (B : List (List Int)) (B2 : Option Addr) (d2 : Nat) (G : List Int) (i0 k0 : Int) (w : World) (hA1 : Kd.C (Kd.slice 3 (Kd.int .i64)) w A1 A.length A) (hB1 : Kd.C (Kd.slice 3 (Kd.int .i64)) w B1 B.length B) (hT : TwoOk L A B) (hV : VP A B (i0, k0)) :
    Calls Try.prog 39 #[.agg #[.int .i64 L, .slice A1 A.length c1, .slice A2 F.length c2], .agg #[.int .i64 L2, .slice B1 B.length d1, .slice B2 G.length d2], .int .i64 i0, .int .i64 k0] w fun e w' => ∃ v0_ v1_ : Value, e = .returned (.tuple #[v0_, v1_]) ∧ Kd.R (Kd.slice 3 (Kd.int .i64)) 23 w' w.heap.size (fun k => some k ≠ v1_.ownBlock) v0_ (rep (bfsP A B i0 k0).1) ∧ Kd.R (Kd.slice 3 (Kd.int .i64)) 23 w' w.heap.size (fun k => some k ≠ v0_.ownBlock) v1_ (bfsP A B i0 k0).2 ∧ Below w.heap.size w w' := by
  have hu29 := Try.underlying29
  have ha := hT.2.1.1
  have hb := hT.2.2.1
  obtain ⟨ad1, _, _, ea1, -⟩ := at_L1 hA1 (0 : Int) (by omega) (by omega)
  subst ea1
  obtain ⟨ad2, _, _, eb1, -⟩ := at_L1 hB1 (0 : Int) (by omega) (by omega)
  subst eb1
  have HA1 := Aside0.mk hA1
  have HB1 := Aside0.mk hB1
  have HT := Aside0.mk hT
  have HV := Aside0.mk hV
  obtain ⟨nb, hnb⟩ : ∃ nb, nb = A.length * B.length := ⟨_, rfl⟩
  have hnb144 : nb ≤ 144 := by rw [hnb]; exact mul_144 ha.2 hb.2
  have HNB := Aside0.mk hnb
  have HE := Aside0.mk (bfsP_end hT hV)
  have hv0 := hV.1
  have hv1 := hV.2
  simp only at hv0 hv1
  have hcode : ∀ p q : Int, 0 ≤ p → 0 ≤ q → (codeP B (p, q) : Int) = p * (B.length : Int) + q := fun p q hp hq => by
    unfold codeP; simp only; rw [Int.natCast_add, Int.natCast_mul, Int.toNat_of_nonneg hp, Int.toNat_of_nonneg hq]
  have hwraps : ∀ p q : Int, VP A B (p, q) → IntKind.i64.wrap (p * (B.length : Int)) = p * (B.length : Int) ∧ IntKind.i64.wrap (p * (B.length : Int) + q) = ((codeP B (p, q) : Nat) : Int) := fun p q hv => by
    have h1 := codeP_lt hv
    unfold VP at hv
    simp only at hv
    have h2 : 0 ≤ p * (B.length : Int) := Int.mul_nonneg hv.1.1 (by omega)
    have h3 := hcode p q hv.1.1 hv.2.1
    refine ⟨IntWalk.i64_in _ (by omega), ?_⟩
    rw [← h3]
    exact IntWalk.i64_in _ (by omega)
  have HW := Aside0.mk hwraps
  have e0 : IntKind.i64.wrap ((A.length : Int) * (B.length : Int)) = (nb : Int) := by
    rw [hnb, Int.natCast_mul]
    exact IntWalk.i64_in _ (by rw [← Int.natCast_mul, ← hnb]; omega)
  obtain ⟨m0, hm0⟩ : ∃ m0, m0 = codeP B (i0, k0) := ⟨_, rfl⟩
  obtain ⟨e1, e2⟩ := hwraps i0 k0 hV
  rw [← hm0] at e2
  have hm0lt : m0 < nb := by rw [hm0, hnb]; exact codeP_lt hV
  have HM0 := Aside0.mk hm0
  have hsz1 : (w.alloc (.cells #[.int .i64 L, .slice (some ad1) A.length c1, .slice A2 F.length c2] 29)).heap.size = w.heap.size + 1 := Array.size_push _
  have B0 := Aside0.mk (blk_alloc (blk_new w (.cells #[.int .i64 L, .slice (some ad1) A.length c1, .slice A2 F.length c2] 29)) (.cells #[.int .i64 L2, .slice (some ad2) B.length d1, .slice B2 G.length d2] 29))
  have B1_ := Aside0.mk (blk_new (w.alloc (.cells #[.int .i64 L, .slice (some ad1) A.length c1, .slice A2 F.length c2] 29)) (.cells #[.int .i64 L2, .slice (some ad2) B.length d1, .slice B2 G.length d2] 29))
  rw [hsz1] at B1_
  have HB0 := Aside0.mk (below_alloc (below_alloc (Below.refl w.heap.size w) (.cells #[.int .i64 L, .slice (some ad1) A.length c1, .slice A2 F.length c2] 29)) (.cells #[.int .i64 L2, .slice (some ad2) B.length d1, .slice B2 G.length d2] 29))
  clear hA1 hB1 hT hV hnb hcode hwraps hm0 hsz1
  go_enter Try.func39, Try.ntmps39
  go_wp2_with (first
    | ((with_reducible refine gate_dst (N := 19) rfl ?_); refine Kd.R_lit (Kd.int .i64) _ 3 rfl (N := 19) rfl (xs := [i0, k0]) (inner := [.int .i64 i0, .int .i64 k0]) (ok := fun _ => True) (okp := fun _ => True) ?hr ?hp (fun _ hk => hk) trivial (Below.refl _ _) (Nat.le_refl _) (by simp) ?_; (case hr => first | (go_simp; done) | (go_simp; rfl)); (case hp => exact (Reps.one (show Kd.M (Kd.int .i64) _ _ _ i0 [.int .i64 i0] from rfl) (Reps.one (show Kd.M (Kd.int .i64) _ _ _ k0 [.int .i64 k0] from rfl) (Reps.none _ _)))); intro vl w3 ho hb_ _ _; have HL := Aside0.mk (Kd.R_lower ho HB0.out.size); have B03 := Aside0.mk (blk_below B0.out hb_); have B13 := Aside0.mk (blk_below B1_.out hb_); have HB3 := Aside0.mk (below_step HB0.out hb_); clear ho hb_ HB0 B0 B1_; obtain ⟨Al, cl, el⟩ := Kd.R_slice HL.out; replace el : vl = .slice Al 2 cl := el; subst el)
    | ((with_reducible refine gate_dst (N := 20) rfl ?_); refine Kd.R_lit (Kd.slice 3 (Kd.int .i64)) _ 23 rfl (N := 20) rfl (xs := [[i0, k0]]) (inner := [.slice Al 2 cl]) (ok := fun _ => True) (okp := fun _ => True) ?hr ?hp (fun _ hk => hk) trivial HB3.out HB3.out.size (by simp) ?_; (case hr => first | (go_simp; done) | (go_simp; rfl)); (case hp => exact (Reps.one (show Kd.M (Kd.slice 3 (Kd.int .i64)) _ _ _ [i0, k0] [.slice Al 2 cl] from ⟨_, rfl, HL.out⟩) (Reps.none _ _))); intro v10 w4 ho hb_ hg hnew; have HP := Aside0.mk ho; have B04 := Aside0.mk (blk_grown B03.out hg (by simp)); have B14 := Aside0.mk (blk_grown B13.out hg (by simp)); have HB4 := Aside0.mk hb_; clear ho hb_ hg hnew HB3 B03 B13 HL)
    | ((with_reducible refine gate_dst (N := 21) rfl ?_); refine Kd.R_lit (Kd.slice 3 (Kd.int .i64)) _ 23 rfl (N := 21) rfl (xs := [[]]) (inner := [.slice none 0 0]) (ok := fun _ => True) (okp := fun _ => True) ?hr ?hp (fun _ hk => hk) trivial (Below.refl _ _) (Nat.le_refl _) (by simp) ?_; (case hr => first | (go_simp; done) | (go_simp; rfl)); (case hp => exact (Reps.one (show Kd.M (Kd.slice 3 (Kd.int .i64)) _ _ _ [] [.slice none 0 0] from ⟨_, rfl, Kd.R_nil _ _ _ _ _⟩) (Reps.none _ _))); intro v11 w5 ho hb_ _ _; have HP5 := Aside0.mk (Kd.R_elder' HP.out (Kd.R_base ho) hb_); have HX5 := Aside0.mk (Kd.R_lower (Kd.R_new' ho (Kd.R_lt HP.out)) HB4.out.size); have B05 := Aside0.mk (blk_below B04.out hb_); have B15 := Aside0.mk (blk_below B14.out hb_); have HB5 := Aside0.mk (below_step HB4.out hb_); clear ho hb_ HB4 B04 B14 HP; have z1 : w5.cell? ⟨w.heap.size, 1, none⟩ = some (.slice (some ad1) A.length c1) := (blk_cell B05.out 1).trans rfl; have z2 : w5.cell? ⟨w.heap.size + 1, 1, none⟩ = some (.slice (some ad2) B.length d1) := (blk_cell B15.out 1).trans rfl)
    | ((with_reducible refine gate_dst (N := 29) rfl ?_); refine Kd.R_make Kd.bool _ 4 rfl (N := 29) rfl 62 _ _ rfl (nb : Int) rfl rfl Try.underlying62 (.bool false) 1 info4 rfl (by decide) (by omega) false (ok := fun _ => True) (okp := fun _ => True) rfl (fun _ hk => hk) trivial (by omega) (by omega) (Below.refl _ _) (Nat.le_refl _) ?_; intro v12 w6 ho hb_ _ _; have HS : Aside0 (Prs w w6 #[.int .i64 L, .slice (some ad1) A.length c1, .slice A2 F.length c2] #[.int .i64 L2, .slice (some ad2) B.length d1, .slice B2 G.length d2] v10 v11 v12 [[i0, k0]] [[]] (List.replicate nb false)) := ⟨⟨Kd.R_mono (Kd.R_below HP5.out hb_) (fun _ hk => hk.2), Kd.R_mono (Kd.R_below HX5.out hb_) (fun _ hk => hk.2), by have := Kd.R_lower ho HB5.out.size; rwa [Int.toNat_natCast] at this, blk_below B05.out hb_, blk_below B15.out hb_, below_step HB5.out hb_⟩⟩; clear ho hb_ HP5 HX5 B05 B15 HB5 z1 z2; obtain ⟨g12, c12, e12, _, _, _⟩ := Kd.R_form HS.out.me (by simp; omega); replace e12 : v12 = .slice (some ⟨g12, 0, none⟩) nb c12 := (by rw [e12]; simp); subst e12; obtain ⟨hx12, hf12⟩ := Kd.R_celln false HS.out.me (m0 : Int) (by omega) (by omega); rw [Int.toNat_natCast] at hx12 hf12; have z2 : w6.cell? ⟨w.heap.size + 1, 1, none⟩ = some (.slice (some ad2) B.length d1) := (blk_cell HS.out.b1 1).trans rfl))
  have hmet0 : MetOk A B [(i0, k0)] ((List.replicate nb false).set m0 true) := by
    rw [HM0.out, HNB.out]
    refine MetOk.push (S := []) ⟨by simp, fun s hs => ?_⟩ HV.out
    have hl := codeP_lt hs
    simp [List.getD_eq_getElem?_getD, List.getElem?_replicate, hl]
  have HMT := Aside0.mk hmet0
  clear hmet0
  go_loopw [10, 11, 13] (fun v10 v11 v13 wr => ∃ (n : Nat) (p : List (Int × Int) × List (List Int)) (M : List Bool), v13 = .int .i64 n ∧ n ≤ nb ∧ Aside0 (Prs w wr #[.int .i64 L, .slice (some ad1) A.length c1, .slice A2 F.length c2] #[.int .i64 L2, .slice (some ad2) B.length d1, .slice B2 G.length d2] v10 v11 (.slice (some ⟨g12, 0, none⟩) nb c12) (rep p.1) p.2 M) ∧ Aside0 (BInv (succP A B) (VP A B) (i0, k0) p) ∧ Aside0 (Closed (succP A B) n p) ∧ Aside0 (MetOk A B p.1 M) ∧ Aside0 (bfsN (succP A B) (0, 0) (nb - n) n p = bfsP A B i0 k0)) (fun _ _ n _ => nb - (intOf n).toNat)
  case atStart => exact ⟨0, ([(i0, k0)], [[]]), _, rfl, Nat.zero_le _, ⟨HS.out.put true⟩, ⟨BInv.one HV.out⟩, ⟨fun j x hj => absurd hj (Nat.not_lt_zero _)⟩, HMT, ⟨by rw [Nat.sub_zero, HNB.out]; rfl⟩⟩
  case round =>
    clear HS HMT hx12 hf12 z2 e1 e2
    obtain ⟨n, p, M, rfl, hn, HS, HI, HC, HM, HF⟩ := hrel
    have hshort : p.1.length ≤ nb := by rw [HNB.out]; exact HI.out.shortP
    obtain ⟨P, hP⟩ : ∃ P, P = rep p.1 := ⟨_, rfl⟩
    have hPl : P.length = p.1.length := by rw [hP]; exact rep_length _
    have HPE := Aside0.mk hP
    have HS' := HS.out
    rw [← hP] at HS'
    clear HS hP
    have HS := Aside0.mk HS'
    clear HS'
    obtain ⟨A10, c10, e10⟩ := Kd.R_slice HS.out.pr
    subst e10
    obtain ⟨A11, c11, e11⟩ := Kd.R_slice HS.out.wo
    subst e11
    by_cases hlt : n < p.1.length
    · obtain ⟨h2, k2⟩ := bfs_step (0, 0) HT.out.succ HI.out HC.out hlt
      obtain ⟨⟨a, b⟩, hs⟩ : ∃ s, s = p.1.getD n (0, 0) := ⟨_, rfl⟩
      have hpn : p.1[n]? = some (a, b) := by rw [hs]; simp [List.getD_eq_getElem?_getD, hlt]
      have hv := HI.out.valid (a, b) (List.mem_of_getElem? hpn)
      have hva := hv.1
      have hvb := hv.2
      simp only at hva hvb
      obtain ⟨wi, hwi⟩ : ∃ wi, wi = p.2.getD n [] := ⟨_, rfl⟩
      have hn2 : n < p.2.length := by rw [HI.out.len]; exact hlt
      have hxn : p.2[n]? = some wi := by rw [hwi]; simp [List.getD_eq_getElem?_getD, hn2]
      have hwl := (HI.out.way n (a, b) wi hpn hxn).2
      obtain ⟨rowA, hrowA⟩ : ∃ r, r = rd_L1 A a := ⟨_, rfl⟩
      obtain ⟨rowB, hrowB⟩ : ∃ r, r = rd_L1 B b := ⟨_, rfl⟩
      obtain ⟨sc, hsc⟩ : ∃ sc, sc = rowA.zip rowB := ⟨_, rfl⟩
      have hss : succP A B (a, b) = sc := by rw [hsc, hrowA, hrowB]; rfl
      rw [← hs, ← hwi, hss] at h2 k2
      obtain ⟨q, hq⟩ : ∃ q, q = rowGo wi 0 sc p := ⟨_, rfl⟩
      rw [← hq] at h2 k2
      have HI2 := Aside0.mk h2
      have HC2 := Aside0.mk k2
      have hq144 : q.1.length ≤ nb := by rw [HNB.out]; exact h2.shortP
      have HF2 : Aside0 (bfsN (succP A B) (0, 0) (nb - (n + 1)) (n + 1) q = bfsP A B i0 k0) := ⟨by
        rw [← HF.out, show nb - n = (nb - (n + 1)) + 1 by omega, bfsN, if_pos hlt, ← hs, ← hwi, hss, ← hq]⟩
      have hrA := HT.out.2.1.2 rowA (by rw [hrowA]; exact rdl_mem hva.1 hva.2)
      have hrB := HT.out.2.2.2 rowB (by rw [hrowB]; exact rdl_mem hvb.1 hvb.2)
      have hlA := hrA.1
      have hlB := hrB.1
      have hL3 := HT.out.1
      have HRA := Aside0.mk hrA.2
      have HRB := Aside0.mk hrB.2
      have hscl : (sc.length : Int) = L := by rw [hsc, List.length_zip]; omega
      have HSC := Aside0.mk hsc
      have HQ : Aside0 (rowGo wi 0 sc (p.1, p.2) = q) := ⟨hq.symm⟩
      have HXN := Aside0.mk hxn
      have HPN := Aside0.mk hpn
      obtain ⟨ad1_, Ar, cr, ea1, hx1, _, hCr⟩ := at_L1 HA1.out a hva.1 hva.2
      cases ea1
      obtain ⟨ad2_, Br, dr, eb1, hx2, _, hDr⟩ := at_L1 HB1.out b hvb.1 hvb.2
      cases eb1
      rw [← hrowA] at hx1 hCr
      rw [← hrowB] at hx2 hDr
      obtain ⟨adA, eA, -⟩ := Kd.at_int hCr (0 : Int) (by omega) (by omega)
      subst eA
      obtain ⟨adB, eB, -⟩ := Kd.at_int hDr (0 : Int) (by omega) (by omega)
      subst eB
      have HCr := Aside0.mk hCr
      have HDr := Aside0.mk hDr
      have HX1 := Aside0.mk hx1
      have HX2 := Aside0.mk hx2
      have hPn : n < P.length := by omega
      have HPL := Aside0.mk hPl
      have HLA := Aside0.mk hlA
      have HLB := Aside0.mk hlB
      have HLS := Aside0.mk hscl
      have hLA1 : L ≤ (rowA.length : Int) := by omega
      have hLB1 : L ≤ (rowB.length : Int) := by omega
      have hLS1 : L ≤ (sc.length : Int) := by omega
      clear hq hs hwi hrowA hrowB hss hv h2 k2 hCr hDr hx1 hx2 hrA hrB hlA hlB hscl hsc hPl hxn hpn HI HC HF
      go_wp2
      go_loopw [10, 11, 14] (fun v10 v11 v14 wr => ∃ (x : Nat) (S : List (Int × Int)) (X : List (List Int)) (M : List Bool), v14 = .int .i64 x ∧ (x : Int) ≤ L ∧ Aside0 (Prs w wr #[.int .i64 L, .slice (some ad1) A.length c1, .slice A2 F.length c2] #[.int .i64 L2, .slice (some ad2) B.length d1, .slice B2 G.length d2] v10 v11 (.slice (some ⟨g12, 0, none⟩) nb c12) (rep S) X M) ∧ Aside0 (MetOk A B S M) ∧ Aside0 (rowGo wi (x : Int) (sc.drop x) (S, X) = q) ∧ Aside0 (X[n]? = some wi) ∧ Aside0 (S[n]? = some (a, b))) (fun _ _ x _ => L.toNat - (intOf x).toNat)
      case atStart => exact ⟨0, p.1, p.2, M, rfl, by omega, ⟨by rw [← HPE.out]; exact HS.out.below (by repeat (first | with_reducible exact Below.refl _ _ | with_reducible apply below_alloc | with_reducible apply pw_below_drewN | with_reducible apply below_drew1))⟩, HM, HQ, HXN, HPN⟩
      case round =>
        clear HS HXN HPN HQ HM HPE HPL hPn
        obtain ⟨x, S, X, M, rfl, hx, HS, HM, HQ, HX, HPN⟩ := hrel
        obtain ⟨P, hP⟩ : ∃ P, P = rep S := ⟨_, rfl⟩
        have hPl : P.length = S.length := by rw [hP]; exact rep_length _
        have hSn : n < S.length := (List.getElem?_eq_some_iff.1 HPN.out).1
        have hrow : P.getD n [] = [a, b] := by rw [hP, rep]; simp [List.getD_eq_getElem?_getD, HPN.out]
        have HPE := Aside0.mk hP
        have HS' := HS.out
        rw [← hP] at HS'
        clear HS hP
        have HS := Aside0.mk HS'
        clear HS'
        obtain ⟨hS144, hX144⟩ : S.length ≤ 144 ∧ X.length ≤ 144 := by
          obtain ⟨u1, u2, e⟩ := rowGo_grows wi (sc.drop x) (x : Int) (S, X)
          rw [HQ.out] at e
          have l1 : q.1.length = S.length + u1.length := by rw [e]; simp
          have l2 : q.2.length = X.length + u2.length := by rw [e]; simp
          have := HI2.out.len
          omega
        have z0 : wr.cell? ⟨w.heap.size, 0, none⟩ = some (.int .i64 L) := (blk_cell HS.out.b0 0).trans rfl
        have z1 : wr.cell? ⟨w.heap.size, 1, none⟩ = some (.slice (some ad1) A.length c1) := (blk_cell HS.out.b0 1).trans rfl
        have z2 : wr.cell? ⟨w.heap.size + 1, 1, none⟩ = some (.slice (some ad2) B.length d1) := (blk_cell HS.out.b1 1).trans rfl
        obtain ⟨g10, c10, e10, _, _, _⟩ := Kd.R_form HS.out.pr (by omega)
        subst e10
        obtain ⟨A11, c11, e11⟩ := Kd.R_slice HS.out.wo
        subst e11
        by_cases hlx : (x : Int) < L
        · have hxA : x < rowA.length := by omega
          have hxB : x < rowB.length := by omega
          have hxS : x < sc.length := by omega
          obtain ⟨pa, hpa⟩ : ∃ t, t = rd rowA (x : Int) := ⟨_, rfl⟩
          obtain ⟨pb, hpb⟩ : ∃ t, t = rd rowB (x : Int) := ⟨_, rfl⟩
          have hdrop : sc.drop x = (pa, pb) :: sc.drop (x + 1) := by
            rw [List.drop_eq_getElem_cons hxS, hpa, hpb]
            congr 1
            simp [HSC.out, rd, hxA, hxB]
          have hpA := HRA.out pa (by rw [hpa]; exact rd_mem (by omega) (by omega))
          have hpB := HRB.out pb (by rw [hpb]; exact rd_mem (by omega) (by omega))
          have hvp : VP A B (pa, pb) := ⟨⟨hpA.1, by show pa < _; omega⟩, ⟨hpB.1, by show pb < _; omega⟩⟩
          obtain ⟨e1, e2⟩ := HW.out pa pb hvp
          obtain ⟨m, hm⟩ : ∃ m, m = codeP B (pa, pb) := ⟨_, rfl⟩
          rw [← hm] at e2
          have hmlt : m < nb := by rw [hm, HNB.out]; exact codeP_lt hvp
          have hQ := HQ.out
          rw [hdrop, rowGo] at hQ
          obtain ⟨adA_, eA, hxa⟩ := Kd.at_int HCr.out (x : Int) (by omega) (by omega)
          cases eA
          rw [← hpa, Int.toNat_natCast] at hxa
          obtain ⟨adB_, eB, hxb⟩ := Kd.at_int HDr.out (x : Int) (by omega) (by omega)
          cases eB
          rw [← hpb, Int.toNat_natCast] at hxb
          have ya := (HS.out.be.cell (World.block_lt_of_cell? w _ hxa)).trans hxa
          have yb := (HS.out.be.cell (World.block_lt_of_cell? w _ hxb)).trans hxb
          have y1 := (HS.out.be.cell (World.block_lt_of_cell? w _ HX1.out)).trans HX1.out
          have y2 := (HS.out.be.cell (World.block_lt_of_cell? w _ HX2.out)).trans HX2.out
          obtain ⟨ce, hce, hMe, hcc, _⟩ := Kd.R_elem HS.out.pr [] (n : Int) (by omega) (by omega)
          obtain ⟨ve, rfl, hve⟩ := hMe
          have hxe := hcc 0 ve rfl
          simp only [show (Kd.slice 3 (Kd.int .i64)).sz = 1 from rfl, Int.toNat_natCast, Nat.mul_one, Nat.add_zero] at hxe hve
          rw [hrow] at hve
          obtain ⟨gp, cp, evp, _, _, _⟩ := Kd.R_form hve (by simp)
          replace evp : ve = .slice (some ⟨gp, 0, none⟩) 2 cp := evp
          subst evp
          have yp0 := (Kd.R_celln 0 hve (0 : Int) (by omega) (by omega)).1
          have yp1 := (Kd.R_celln 0 hve (1 : Int) (by omega) (by omega)).1
          replace yp0 : wr.cell? ⟨gp, 0, none⟩ = some (.int .i64 a) := yp0
          replace yp1 : wr.cell? ⟨gp, 1, none⟩ = some (.int .i64 b) := yp1
          obtain ⟨hxm, hfm⟩ := Kd.R_celln false HS.out.me (m : Int) (by omega) (by omega)
          rw [Int.toNat_natCast] at hxm hfm
          have hmet := HM.out.2 (pa, pb) hvp
          rw [← hm] at hmet
          have hrdm : rdOf false M (m : Int) = M.getD m false := by simp [rdOf]
          rw [hrdm] at hxm
          have hnX : n < X.length := (List.getElem?_eq_some_iff.1 HX.out).1
          have HXi : Aside0 (rd_L1 X (n : Int) = wi) := ⟨by simp [rd_L1, List.getD_eq_getElem?_getD, HX.out]⟩
          have HVP := Aside0.mk hvp
          have HPL := Aside0.mk hPl
          have HMC := Aside0.mk hm
          have hPn : n < P.length := by omega
          have hP144 : P.length ≤ 144 := by omega
          clear hdrop hpa hpb hvp hce hcc hve hrow hrdm hxa hxb hm hPl
          by_cases hin : (pa, pb) ∈ S
          · have hb1 : M.getD m false = true := hmet.2 hin
            rw [hb1] at hxm
            rw [if_pos (show (pa, pb) ∈ (S, X).1 from hin)] at hQ
            have HQ2 : Aside0 (rowGo wi ((x + 1 : Nat) : Int) (sc.drop (x + 1)) (S, X) = q) := ⟨by rw [← hQ]; simp⟩
            clear hQ HQ hin hmet hb1
            go_wp2
            repeat (go_quiet (fail); try go_wp2)
            go_roundw
            case rel => exact ⟨x + 1, S, X, M, by go_num, by omega, ⟨by rw [← HPE.out]; exact HS.out.below (by repeat (first | with_reducible exact Below.refl _ _ | with_reducible apply below_alloc | with_reducible apply pw_below_drewN | with_reducible apply below_drew1))⟩, HM, HQ2, HX, HPN⟩
            case measure => simp [intOf]; omega
          · have hb1 : M.getD m false = false := Bool.eq_false_iff.mpr (fun h_ => hin (hmet.1 h_))
            rw [hb1] at hxm
            rw [if_neg (show ¬ (pa, pb) ∈ (S, X).1 from hin)] at hQ
            have HQ2 : Aside0 (rowGo wi ((x + 1 : Nat) : Int) (sc.drop (x + 1)) (S ++ [(pa, pb)], X ++ [wi ++ [(x : Int)]]) = q) := ⟨by rw [← hQ]; simp⟩
            have HM2 : Aside0 (MetOk A B (S ++ [(pa, pb)]) (M.set m true)) := ⟨by rw [HMC.out]; exact HM.out.push HVP.out⟩
            clear hQ HQ hin hmet hb1 HM
            go_wp2
            go_quiet (fail)
            go_wp2_with (first
              | ((with_reducible refine gate_dst (N := 100) rfl ?_); refine Kd.R_lit (Kd.int .i64) _ 3 rfl (N := 100) rfl (xs := [pa, pb]) (inner := [.int .i64 pa, .int .i64 pb]) (ok := fun _ => True) (okp := fun _ => True) ?hr ?hp (fun _ hk => hk) trivial (Below.refl _ _) (Nat.le_refl _) (by simp) ?_; (case hr => first | (go_simp; done) | (go_simp; rfl)); (case hp => exact (Reps.one (show Kd.M (Kd.int .i64) _ _ _ pa [.int .i64 pa] from rfl) (Reps.one (show Kd.M (Kd.int .i64) _ _ _ pb [.int .i64 pb] from rfl) (Reps.none _ _)))); intro vl w3 ho hb_ _ _; have HS1 := Aside0.mk (((HS.out.below (by repeat (first | with_reducible exact Below.refl _ _ | with_reducible apply below_alloc | with_reducible apply pw_below_drewN | with_reducible apply below_drew1))).put true).lit ho hb_); clear ho hb_; obtain ⟨Al, cl, el⟩ := Kd.R_slice HS1.out.li; replace el : vl = .slice Al 2 cl := el; subst el)
              | ((with_reducible refine gate_builtin (b := .append) (xs := #[.tmp 97, .tmp 101]) rfl ?_); at_builtin; refine Kd.R_append (Kd.slice 3 (Kd.int .i64)) (w0 := w) w.heap.size rfl (.tmp 97) (.tmp 101) 22 23 (.slice none 0 0) 24 rfl Try.underlying22 info23 rfl (by decide) (by omega) (.slice (some ⟨g10, 0, none⟩) P.length c10) P [pa, pb] [.slice Al 2 cl] (fun k_ => some k_ ≠ (Value.slice A11 X.length c11).ownBlock) (fun k_ => some k_ = (Value.slice Al 2 cl).ownBlock) rfl rfl ?aM ?aK ?aF ?aO ?aB ?aS ?aL ?_; (case aM => exact (HS1.out.below (by repeat (first | with_reducible exact Below.refl _ _ | with_reducible apply below_alloc | with_reducible apply pw_below_drewN | with_reducible apply below_drew1))).mem); (case aK => exact (HS1.out.below (by repeat (first | with_reducible exact Below.refl _ _ | with_reducible apply below_alloc | with_reducible apply pw_below_drewN | with_reducible apply below_drew1))).okPr); (case aF => exact (HS1.out.below (by repeat (first | with_reducible exact Below.refl _ _ | with_reducible apply below_alloc | with_reducible apply pw_below_drewN | with_reducible apply below_drew1))).freshPr); (case aO => exact Kd.R_mono (HS1.out.below (by repeat (first | with_reducible exact Below.refl _ _ | with_reducible apply below_alloc | with_reducible apply pw_below_drewN | with_reducible apply below_drew1))).pr (fun _ hk => hk.1)); (case aB => exact (HS1.out.below (by repeat (first | with_reducible exact Below.refl _ _ | with_reducible apply below_alloc | with_reducible apply pw_below_drewN | with_reducible apply below_drew1))).be); (case aS => exact (HS1.out.below (by repeat (first | with_reducible exact Below.refl _ _ | with_reducible apply below_alloc | with_reducible apply pw_below_drewN | with_reducible apply below_drew1))).be.size); (case aL => omega); intro v10n w4 ho hb_ hg hat; have HS2 := Aside0.mk ((HS1.out.below (by repeat (first | with_reducible exact Below.refl _ _ | with_reducible apply below_alloc | with_reducible apply pw_below_drewN | with_reducible apply below_drew1))).donePr ho hb_ hg hat); clear ho hb_ hg hat HS1; obtain ⟨ad5, Aw, cw, ea5, hx5, hlw, hC5⟩ := at_L1 (Kd.R_reads' HS2.out.wo).2.2 (n : Int) (by omega) (by omega); subst ea5; rw [HXi.out, Int.toNat_natCast] at hx5; rw [HXi.out] at hC5 hlw; have HCw := Aside0.mk hC5; have HCW := Aside0.mk hlw; clear hC5 hlw)
              | (go_at_call 46; (with_reducible refine (spec_l1Own.calls _ _ wi wi _ (Kd.C_below HCw.out (by repeat (first | with_reducible exact Below.refl _ _ | with_reducible apply below_alloc | with_reducible apply pw_below_drewN | with_reducible apply below_drew1))) HCW.out (l1Own wi (by omega))).mono ?_); rintro e w5 ⟨vo, rfl, ho, hb_⟩; have HS3 := Aside0.mk ((HS2.out.below (by repeat (first | with_reducible exact Below.refl _ _ | with_reducible apply below_alloc | with_reducible apply pw_below_drewN | with_reducible apply below_drew1))).lit ho hb_); clear ho hb_ HS2 HCw hx5)
              | ((with_reducible refine gate_builtin (b := .append) (xs := #[.tmp 108, .tmp 110]) rfl ?_); at_builtin; refine Kd.R_append (Kd.int .i64) (w0 := w) w.heap.size rfl (.tmp 108) (.tmp 110) 23 3 (.int .i64 0) 8 rfl Try.underlying23 info3 rfl (by decide) (by omega) vo wi (x : Int) [.int .i64 (x : Int)] (fun _ => True) (fun _ => False) rfl rfl ?aP (fun _ hk => hk.elim) (fun _ _ => trivial) ?aO ?aB ?aS ?aL ?_; (case aP => exact rfl); (case aO => exact (HS3.out.below (by repeat (first | with_reducible exact Below.refl _ _ | with_reducible apply below_alloc | with_reducible apply pw_below_drewN | with_reducible apply below_drew1))).li); (case aB => exact (HS3.out.below (by repeat (first | with_reducible exact Below.refl _ _ | with_reducible apply below_alloc | with_reducible apply pw_below_drewN | with_reducible apply below_drew1))).be); (case aS => exact (HS3.out.below (by repeat (first | with_reducible exact Below.refl _ _ | with_reducible apply below_alloc | with_reducible apply pw_below_drewN | with_reducible apply below_drew1))).be.size); (case aL => omega); intro vs w6_ ho hb_ hg hat; have HS4 := Aside0.mk ((HS3.out.below (by repeat (first | with_reducible exact Below.refl _ _ | with_reducible apply below_alloc | with_reducible apply pw_below_drewN | with_reducible apply below_drew1))).grow ho hb_ hg hat); clear ho hb_ hg hat HS3; obtain ⟨ys, hys⟩ : ∃ y_, y_ = (wi ++ [(x : Int)]) := ⟨_, rfl⟩; rw [← hys] at HS4; have HY := Aside0.mk hys; clear hys; obtain ⟨As, cs_, es⟩ := Kd.R_slice HS4.out.li; subst es)
              | ((with_reducible refine gate_builtin (b := .append) (xs := #[.tmp 103, .tmp 112]) rfl ?_); at_builtin; refine Kd.R_append (Kd.slice 3 (Kd.int .i64)) (w0 := w) w.heap.size rfl (.tmp 103) (.tmp 112) 22 23 (.slice none 0 0) 24 rfl Try.underlying22 info23 rfl (by decide) (by omega) (.slice (some ad5) X.length c11) X ys [.slice As ys.length cs_] (fun k_ => some k_ ≠ v10n.ownBlock) (fun k_ => some k_ = (Value.slice As ys.length cs_).ownBlock) rfl rfl ?aM ?aK ?aF ?aO ?aB ?aS ?aL ?_; (case aM => exact (HS4.out.below (by repeat (first | with_reducible exact Below.refl _ _ | with_reducible apply below_alloc | with_reducible apply pw_below_drewN | with_reducible apply below_drew1))).mem); (case aK => exact (HS4.out.below (by repeat (first | with_reducible exact Below.refl _ _ | with_reducible apply below_alloc | with_reducible apply pw_below_drewN | with_reducible apply below_drew1))).okWo); (case aF => exact (HS4.out.below (by repeat (first | with_reducible exact Below.refl _ _ | with_reducible apply below_alloc | with_reducible apply pw_below_drewN | with_reducible apply below_drew1))).freshWo); (case aO => exact Kd.R_mono (HS4.out.below (by repeat (first | with_reducible exact Below.refl _ _ | with_reducible apply below_alloc | with_reducible apply pw_below_drewN | with_reducible apply below_drew1))).wo (fun _ hk => hk.1)); (case aB => exact (HS4.out.below (by repeat (first | with_reducible exact Below.refl _ _ | with_reducible apply below_alloc | with_reducible apply pw_below_drewN | with_reducible apply below_drew1))).be); (case aS => exact (HS4.out.below (by repeat (first | with_reducible exact Below.refl _ _ | with_reducible apply below_alloc | with_reducible apply pw_below_drewN | with_reducible apply below_drew1))).be.size); (case aL => omega); intro v11n w7 ho hb_ hg hat; have HS5 := Aside0.mk ((HS4.out.below (by repeat (first | with_reducible exact Below.refl _ _ | with_reducible apply below_alloc | with_reducible apply pw_below_drewN | with_reducible apply below_drew1))).doneWo ho hb_ hg hat); clear ho hb_ hg hat HS4))
            go_roundw
            case rel => exact ⟨x + 1, S ++ [(pa, pb)], X ++ [wi ++ [(x : Int)]], M.set m true, by go_num, by omega, ⟨(show Prs w _ _ _ _ _ _ (rep (S ++ [(pa, pb)])) (X ++ [wi ++ [(x : Int)]]) (M.set m true) from by have h_ := HS5.out; rw [HY.out, HPE.out] at h_; rw [rep_snoc]; exact h_).below (by repeat (first | with_reducible exact Below.refl _ _ | with_reducible apply below_alloc | with_reducible apply pw_below_drewN | with_reducible apply below_drew1))⟩, HM2, HQ2, ⟨by rw [List.getElem?_append_left hnX]; exact HX.out⟩, ⟨by rw [List.getElem?_append_left hSn]; exact HPN.out⟩⟩
            case measure => simp [intOf]; omega
        · have hd : sc.drop x = [] := by
            have := HLS.out
            rw [List.drop_eq_nil_iff]; omega
          have hQ := HQ.out
          rw [hd, rowGo] at hQ
          subst hQ
          clear hd HQ hrow hPl
          go_wp2
          go_roundw
          case rel => exact ⟨n + 1, (S, X), M, by go_num, by omega, ⟨by rw [← HPE.out]; exact HS.out.below (by repeat (first | with_reducible exact Below.refl _ _ | with_reducible apply below_alloc | with_reducible apply pw_below_drewN | with_reducible apply below_drew1))⟩, HI2, HC2, HM, HF2⟩
          case measure => simp [intOf]; omega
    · have HF2 : Aside0 (p = bfsP A B i0 k0) := ⟨by
        rw [← HF.out]
        cases hd : nb - n with
        | zero => rfl
        | succ d => rw [bfsN, if_neg hlt]⟩
      have hPn : ¬ n < P.length := by omega
      clear HI HC HF HM hPl hlt
      go_wp2
      go_ret2
      exact ⟨_, _, rfl, by rw [← HF2.out, ← HPE.out]; exact HS.out.pr, by rw [← HF2.out]; exact HS.out.wo, HS.out.be⟩
theorem spec_eqPairs.calls (k : Nat) (a0_0 : Int) (A0_1 : Option Addr) (c0_1 : Nat) (l0_1 : List (List Int)) (A0_2 : Option Addr) (c0_2 : Nat) (l0_2 : List Int) (a1_0 : Int) (A1_1 : Option Addr) (c1_1 : Nat) (l1_1 : List (List Int)) (A1_2 : Option Addr) (c1_2 : Nat) (l1_2 : List Int) (a2 : Int) (a3 : Int) (r1 : List (List Int)) (r2 : List (List Int)) (w : World) (hr0_1 : Kd.C (Kd.slice 3 (Kd.int .i64)) w A0_1 l0_1.length l0_1) (hc0_1 : l0_1.length ≤ c0_1) (hr0_2 : Kd.C (Kd.int .i64) w A0_2 l0_2.length l0_2) (hc0_2 : l0_2.length ≤ c0_2) (hr1_1 : Kd.C (Kd.slice 3 (Kd.int .i64)) w A1_1 l1_1.length l1_1) (hc1_1 : l1_1.length ≤ c1_1) (hr1_2 : Kd.C (Kd.int .i64) w A1_2 l1_2.length l1_2) (hc1_2 : l1_2.length ≤ c1_2) (h : spec_eqPairs.f k a0_0 l0_1 l0_2 a1_0 l1_1 l1_2 a2 a3 = some (r1, r2)) :
    Calls Try.prog 39 #[.agg #[.int .i64 a0_0, .slice A0_1 l0_1.length c0_1, .slice A0_2 l0_2.length c0_2], .agg #[.int .i64 a1_0, .slice A1_1 l1_1.length c1_1, .slice A1_2 l1_2.length c1_2], .int .i64 a2, .int .i64 a3] w fun e w' => ∃ v0_ v1_ : Value, e = .returned (.tuple #[v0_, v1_]) ∧ Kd.N (Kd.slice 3 (Kd.int .i64)) 23 w' w.heap.size (fun k_ => (w.heap.size ≤ k_) ∧ some k_ ≠ (v1_ : Value).ownBlock) v0_ r1 ∧ Kd.N (Kd.slice 3 (Kd.int .i64)) 23 w' w.heap.size (fun k_ => (w.heap.size ≤ k_) ∧ some k_ ≠ (v0_ : Value).ownBlock) v1_ r2 ∧ Below w.heap.size w w' := by
  unfold spec_eqPairs.f at h
  by_cases c : TwoOk a0_0 l0_1 l1_1 ∧ VP l0_1 l1_1 (a2, a3)
  · rw [if_pos c] at h
    simp only [Option.some.injEq, Prod.mk.injEq] at h
    obtain ⟨rfl, rfl⟩ := h
    refine (eqPairs_walk a0_0 _ c0_1 l0_1 _ c0_2 l0_2 a1_0 _ c1_1 l1_1 _ c1_2 l1_2 a2 a3 w hr0_1 hr1_1 c.1 c.2).mono ?_
    rintro e w' ⟨v0, v1, rfl, h0, h1, hb⟩
    exact ⟨v0, v1, rfl, Kd.N_mono (Kd.R_N (Kd.R_bound h0)) (fun k hk => ⟨hk.2.1, hk.1⟩), Kd.N_mono (Kd.R_N (Kd.R_bound h1)) (fun k hk => ⟨hk.2.1, hk.1⟩), hb⟩
  · rw [if_neg c] at h; simp at h
end Go.Proofs.Ytadhbepoblllhaa.P
