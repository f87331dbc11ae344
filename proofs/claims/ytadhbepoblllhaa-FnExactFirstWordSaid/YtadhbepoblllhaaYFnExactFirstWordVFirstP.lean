/- The walk of the program's firstPairs: the pairs of states that words reach, and these words, as the plain search 'bfsP' finds them (printed by gen_fp.py). -/
import Derived.Test.YtadhbepoblllhaaYFnExactFirstWordPx10
import Derived.Test.YtadhbepoblllhaaYFnExactFirstWordVPrs
import Derived.Test.YtadhbepoblllhaaYFnExactFirstWordAPairs0
import Derived.IntWalk
namespace Go.Proofs.Ytadhbepoblllhaa.P
open Go.RowKit Go.Proofs.YtadhbepoblllhaaW.PrintWords Go.Proofs.YtadhbepoblllhaaW.PrintLast Go.Proofs.YtadhbepoblllhaaW.PrintMore Go.Proofs.Ytadhbepoblllhaa.Own Go.Proofs.Ytadhbepoblllhaa.A
set_option linter.unusedVariables false
set_option linter.unusedSimpArgs false
theorem arrP : WideMaps.ArrKey Try.prog 59 3 2 := ⟨Try.underlying59, by kernel_rfl, by kernel_rfl, by kernel_rfl⟩
theorem szP : ∃ m, Try.prog.types.size = m + 1 := Nat.exists_eq_add_one.mpr (of_decide_eq_true (by kernel_rfl))
theorem infoP : (Try.prog.info? 59).map (fun i => (i.zero, i.size, i.bytes)) = some (some (.agg #[.int .i64 0, .int .i64 0]), 2, 16) := by kernel_rfl
theorem VP_wf {A B : List (List Int)} {p : Int × Int} (h : VP A B p) (hA : A.length ≤ 12) (hB : B.length ≤ 12) : Own.WfP p := by
  obtain ⟨a, b⟩ := p
  have h1 := h.1
  have h2 := h.2
  simp only at h1 h2
  exact Own.wfP_small (by omega) (by omega) (by omega) (by omega)
set_option maxHeartbeats 8000000 in
set_option maxRecDepth 100000 in
theorem firstPairs_own (L : Int) (A1 : Option Addr) (c1 : Nat) (A : List (List Int)) (A2 : Option Addr) (c2 : Nat) (F : List Int) (L2 : Int) (B1 : Option Addr) (d1 : Nat) (B : List (List Int)) (B2 : Option Addr) (d2 : Nat) (G : List Int) (i0 k0 : Int) (w : World) (hA1 : Kd.C (Kd.slice 3 (Kd.int .i64)) w A1 A.length A) (hB1 : Kd.C (Kd.slice 3 (Kd.int .i64)) w B1 B.length B) (hT : TwoOk L A B) (hV : VP A B (i0, k0)) :
    Calls Try.prog 42 #[.agg #[.int .i64 L, .slice A1 A.length c1, .slice A2 F.length c2], .agg #[.int .i64 L2, .slice B1 B.length d1, .slice B2 G.length d2], .int .i64 i0, .int .i64 k0] w fun e w' => ∃ v0_ v1_ : Value, e = .returned (.tuple #[v0_, v1_]) ∧ Kd.R kPr 59 w' w.heap.size (fun _ => True) v0_ (bfsP A B i0 k0).1 ∧ Kd.R (Kd.slice 3 (Kd.int .i64)) 23 w' w.heap.size (fun _ => True) v1_ (bfsP A B i0 k0).2 ∧ Below w.heap.size w w' := by
  have hu29 := Try.underlying29
  have hu59 := Try.underlying59
  have ha := hT.2.1.1
  have hb := hT.2.2.1
  obtain ⟨ad1, _, _, ea1, -⟩ := at_L1 hA1 (0 : Int) (by omega) (by omega)
  subst ea1
  obtain ⟨ad2, _, _, eb1, -⟩ := at_L1 hB1 (0 : Int) (by omega) (by omega)
  subst eb1
  have HA1 := Aside0.mk hA1
  have HB1 := Aside0.mk hB1
  have HT := Aside0.mk hT
  have HV := Aside0.mk hV
  obtain ⟨nb, hnb⟩ : ∃ nb, nb = A.length * B.length := ⟨_, rfl⟩
  have hnb144 : nb ≤ 144 := by rw [hnb]; exact mul_144 ha.2 hb.2
  have HNB := Aside0.mk hnb
  have HE := Aside0.mk (bfsP_end hT hV)
  have HAB := Aside0.mk (And.intro ha.2 hb.2)
  have HW0 : Aside0 (Own.WfP (i0, k0)) := ⟨VP_wf hV ha.2 hb.2⟩
  have hsz1 : (w.alloc (.cells #[.int .i64 L, .slice (some ad1) A.length c1, .slice A2 F.length c2] 29)).heap.size = w.heap.size + 1 := Array.size_push _
  have B0 := Aside0.mk (blk_alloc (blk_new w (.cells #[.int .i64 L, .slice (some ad1) A.length c1, .slice A2 F.length c2] 29)) (.cells #[.int .i64 L2, .slice (some ad2) B.length d1, .slice B2 G.length d2] 29))
  have B1_ := Aside0.mk (blk_new (w.alloc (.cells #[.int .i64 L, .slice (some ad1) A.length c1, .slice A2 F.length c2] 29)) (.cells #[.int .i64 L2, .slice (some ad2) B.length d1, .slice B2 G.length d2] 29))
  rw [hsz1] at B1_
  have HB0 := Aside0.mk (below_alloc (below_alloc (Below.refl w.heap.size w) (.cells #[.int .i64 L, .slice (some ad1) A.length c1, .slice A2 F.length c2] 29)) (.cells #[.int .i64 L2, .slice (some ad2) B.length d1, .slice B2 G.length d2] 29))
  clear hA1 hB1 hT hV hnb hsz1
  go_enter Try.func42, Try.ntmps42
  go_wp2_with (first
    | ((with_reducible refine gate_dst (N := 19) rfl ?_); refine Kd.R_lit kPr _ 59 rfl (N := 19) rfl (xs := [(i0, k0)]) (inner := [.int .i64 i0, .int .i64 k0]) (ok := fun _ => True) (okp := fun _ => True) ?hr ?hp (fun _ hk => hk) trivial (Below.refl _ _) (Nat.le_refl _) (by simp) ?_; (case hr => first | (go_simp; done) | (go_simp; rfl)); (case hp => exact Reps.snoc (ps := []) (cs := []) (Reps.none _ _) (kPr_M _ _ _ (i0, k0)) rfl); intro v10 w3 ho hb_ _ _; have HP := Aside0.mk (Kd.R_lower ho HB0.out.size); have B03 := Aside0.mk (blk_below B0.out hb_); have B13 := Aside0.mk (blk_below B1_.out hb_); have HB3 := Aside0.mk (below_step HB0.out hb_); clear ho hb_ HB0 B0 B1_)
    | ((with_reducible refine gate_dst (N := 20) rfl ?_); refine Kd.R_lit (Kd.int .i64) _ 3 rfl (N := 20) rfl (xs := ([] : List Int)) (inner := []) (ok := fun _ => True) (okp := fun _ => True) ?hr (Reps.none _ _) (fun _ hk => hk) trivial (Below.refl _ _) (Nat.le_refl _) (by simp) ?_; (case hr => first | (go_simp; done) | (go_simp; rfl)); intro vl w4 ho hb_ _ _; have HL := Aside0.mk (Kd.R_lower ho HB3.out.size); have HP4 := Aside0.mk (Kd.R_below HP.out hb_); have B04 := Aside0.mk (blk_below B03.out hb_); have B14 := Aside0.mk (blk_below B13.out hb_); have HB4 := Aside0.mk (below_step HB3.out hb_); clear ho hb_ HB3 B03 B13 HP; obtain ⟨Al, cl, el⟩ := Kd.R_slice HL.out; replace el : vl = .slice Al 0 cl := el; subst el)
    | ((with_reducible refine gate_dst (N := 21) rfl ?_); refine Kd.R_lit (Kd.slice 3 (Kd.int .i64)) _ 23 rfl (N := 21) rfl (xs := ([[]] : List (List Int))) (inner := [.slice Al 0 cl]) (ok := fun _ => True) (okp := fun _ => True) ?hr ?hp (fun _ hk => hk) trivial HB4.out HB4.out.size (by simp) ?_; (case hr => first | (go_simp; done) | (go_simp; rfl)); (case hp => exact (Reps.one (show Kd.M (Kd.slice 3 (Kd.int .i64)) _ _ _ [] [.slice Al 0 cl] from ⟨_, rfl, HL.out⟩) (Reps.none _ _))); intro v11 w5 ho hb_ hg hnew; have HP5 := Aside0.mk (Kd.R_grown HP4.out hg (fun _ _ => by simp)); have HX5 := Aside0.mk ho; have B05 := Aside0.mk (blk_grown B04.out hg (by simp)); have B15 := Aside0.mk (blk_grown B14.out hg (by simp)); have HB5 := Aside0.mk hb_; clear ho hb_ hg hnew HB4 B04 B14 HP4 HL)
    | ((with_reducible refine gate_dst (N := 22) rfl ?_); refine Own.PSet.make_at (k := 59) (e := 4) rfl rfl ?_; intro g12 hg w6 hm hb_; have L12 : Aside0 (w.heap.size ≤ g12) := ⟨(by rw [hg]; exact HB5.out.size)⟩; have HS6 : Aside0 (Own.Fst w w6 #[.int .i64 L, .slice (some ad1) A.length c1, .slice A2 F.length c2] #[.int .i64 L2, .slice (some ad2) B.length d1, .slice B2 G.length d2] g12 v10 v11 [(i0, k0)] [] [[]]) := ⟨⟨Kd.R_below HP5.out hb_, Kd.R_below HX5.out hb_, hm, L12.out, blk_below B05.out hb_, blk_below B15.out hb_, below_step HB5.out hb_⟩⟩; clear hg hm hb_ L12 HP5 HX5 B05 B15 HB5)
    | ((with_reducible refine Own.gate_insert (m := .tmp 22) rfl ?_); refine Own.PSet.insert_at rfl (.tmp 22) (.tmp 25) (.const (.bool true)) rfl rfl HS6.out.ma arrP Try.underlying3 szP Try.underlying63 Try.underlying4 (by simp [maxLen]) (i0, k0) HW0.out rfl rfl ?_; intro w7 hm hg; have HS : Aside0 (Own.Fst w w7 #[.int .i64 L, .slice (some ad1) A.length c1, .slice A2 F.length c2] #[.int .i64 L2, .slice (some ad2) B.length d1, .slice B2 G.length d2] g12 v10 v11 [(i0, k0)] [(i0, k0)] [[]]) := ⟨HS6.out.met hm hg⟩; clear hm hg HS6)
    | fail)
  go_loopw [10, 11, 13] (fun v10 v11 v13 wr => ∃ (n : Nat) (p : List (Int × Int) × List (List Int)), v13 = .int .i64 n ∧ n ≤ nb ∧ Aside0 (Own.Fst w wr #[.int .i64 L, .slice (some ad1) A.length c1, .slice A2 F.length c2] #[.int .i64 L2, .slice (some ad2) B.length d1, .slice B2 G.length d2] g12 v10 v11 p.1 p.1 p.2) ∧ Aside0 (BInv (succP A B) (VP A B) (i0, k0) p) ∧ Aside0 (Closed (succP A B) n p) ∧ Aside0 (bfsN (succP A B) (0, 0) (nb - n) n p = bfsP A B i0 k0)) (fun _ _ n _ => nb - (intOf n).toNat)
  case atStart => exact ⟨0, ([(i0, k0)], [[]]), rfl, Nat.zero_le _, HS, ⟨BInv.one HV.out⟩, ⟨fun j x hj => absurd hj (Nat.not_lt_zero _)⟩, ⟨by rw [Nat.sub_zero, HNB.out]; rfl⟩⟩
  case round =>
    clear HS
    obtain ⟨n, p, rfl, hn, HS, HI, HC, HF⟩ := hrel
    have hshort : p.1.length ≤ nb := by rw [HNB.out]; exact HI.out.shortP
    obtain ⟨A10, c10, e10⟩ := Kd.R_slice HS.out.pr
    subst e10
    obtain ⟨A11, c11, e11⟩ := Kd.R_slice HS.out.wo
    subst e11
    by_cases hlt : n < p.1.length
    · obtain ⟨h2, k2⟩ := bfs_step (0, 0) HT.out.succ HI.out HC.out hlt
      obtain ⟨⟨a, b⟩, hs⟩ : ∃ s, s = p.1.getD n (0, 0) := ⟨_, rfl⟩
      have hpn : p.1[n]? = some (a, b) := by rw [hs]; simp [List.getD_eq_getElem?_getD, hlt]
      have hv := HI.out.valid (a, b) (List.mem_of_getElem? hpn)
      have hva := hv.1
      have hvb := hv.2
      simp only at hva hvb
      obtain ⟨wi, hwi⟩ : ∃ wi, wi = p.2.getD n [] := ⟨_, rfl⟩
      have hn2 : n < p.2.length := by rw [HI.out.len]; exact hlt
      have hxn : p.2[n]? = some wi := by rw [hwi]; simp [List.getD_eq_getElem?_getD, hn2]
      have hwl := (HI.out.way n (a, b) wi hpn hxn).2
      obtain ⟨rowA, hrowA⟩ : ∃ r, r = rd_L1 A a := ⟨_, rfl⟩
      obtain ⟨rowB, hrowB⟩ : ∃ r, r = rd_L1 B b := ⟨_, rfl⟩
      obtain ⟨sc, hsc⟩ : ∃ sc, sc = rowA.zip rowB := ⟨_, rfl⟩
      have hss : succP A B (a, b) = sc := by rw [hsc, hrowA, hrowB]; rfl
      rw [← hs, ← hwi, hss] at h2 k2
      obtain ⟨q, hq⟩ : ∃ q, q = rowGo wi 0 sc p := ⟨_, rfl⟩
      rw [← hq] at h2 k2
      have HI2 := Aside0.mk h2
      have HC2 := Aside0.mk k2
      have hq144 : q.1.length ≤ nb := by rw [HNB.out]; exact h2.shortP
      have HF2 : Aside0 (bfsN (succP A B) (0, 0) (nb - (n + 1)) (n + 1) q = bfsP A B i0 k0) := ⟨by
        rw [← HF.out, show nb - n = (nb - (n + 1)) + 1 by omega, bfsN, if_pos hlt, ← hs, ← hwi, hss, ← hq]⟩
      have hrA := HT.out.2.1.2 rowA (by rw [hrowA]; exact rdl_mem hva.1 hva.2)
      have hrB := HT.out.2.2.2 rowB (by rw [hrowB]; exact rdl_mem hvb.1 hvb.2)
      have hlA := hrA.1
      have hlB := hrB.1
      have hL3 := HT.out.1
      have HRA := Aside0.mk hrA.2
      have HRB := Aside0.mk hrB.2
      have hscl : (sc.length : Int) = L := by rw [hsc, List.length_zip]; omega
      have HSC := Aside0.mk hsc
      have HQ : Aside0 (rowGo wi 0 sc (p.1, p.2) = q) := ⟨hq.symm⟩
      have HXN := Aside0.mk hxn
      have HPN := Aside0.mk hpn
      obtain ⟨ad1_, Ar, cr, ea1, hx1, _, hCr⟩ := at_L1 HA1.out a hva.1 hva.2
      cases ea1
      obtain ⟨ad2_, Br, dr, eb1, hx2, _, hDr⟩ := at_L1 HB1.out b hvb.1 hvb.2
      cases eb1
      rw [← hrowA] at hx1 hCr
      rw [← hrowB] at hx2 hDr
      obtain ⟨adA, eA, -⟩ := Kd.at_int hCr (0 : Int) (by omega) (by omega)
      subst eA
      obtain ⟨adB, eB, -⟩ := Kd.at_int hDr (0 : Int) (by omega) (by omega)
      subst eB
      have HCr := Aside0.mk hCr
      have HDr := Aside0.mk hDr
      have HX1 := Aside0.mk hx1
      have HX2 := Aside0.mk hx2
      have HLA := Aside0.mk hlA
      have HLB := Aside0.mk hlB
      have HLS := Aside0.mk hscl
      have hLA1 : L ≤ (rowA.length : Int) := by omega
      have hLB1 : L ≤ (rowB.length : Int) := by omega
      have hLS1 : L ≤ (sc.length : Int) := by omega
      clear hq hs hwi hrowA hrowB hss hv h2 k2 hCr hDr hx1 hx2 hrA hrB hlA hlB hscl hsc hxn hpn HI HC HF
      go_wp2
      go_loopw [10, 11, 14] (fun v10 v11 v14 wr => ∃ (x : Nat) (S : List (Int × Int)) (X : List (List Int)), v14 = .int .i64 x ∧ (x : Int) ≤ L ∧ Aside0 (Own.Fst w wr #[.int .i64 L, .slice (some ad1) A.length c1, .slice A2 F.length c2] #[.int .i64 L2, .slice (some ad2) B.length d1, .slice B2 G.length d2] g12 v10 v11 S S X) ∧ Aside0 (rowGo wi (x : Int) (sc.drop x) (S, X) = q) ∧ Aside0 (X[n]? = some wi) ∧ Aside0 (S[n]? = some (a, b))) (fun _ _ x _ => L.toNat - (intOf x).toNat)
      case atStart => exact ⟨0, p.1, p.2, rfl, by omega, ⟨HS.out.below (by repeat (first | with_reducible exact Below.refl _ _ | with_reducible apply below_alloc | with_reducible apply pw_below_drewN | with_reducible apply below_drew1))⟩, HQ, HXN, HPN⟩
      case round =>
        clear HS HXN HPN HQ
        obtain ⟨x, S, X, rfl, hx, HS, HQ, HX, HPN⟩ := hrel
        have hSn : n < S.length := (List.getElem?_eq_some_iff.1 HPN.out).1
        obtain ⟨hS144, hX144⟩ : S.length ≤ 144 ∧ X.length ≤ 144 := by
          obtain ⟨u1, u2, e⟩ := rowGo_grows wi (sc.drop x) (x : Int) (S, X)
          rw [HQ.out] at e
          have l1 : q.1.length = S.length + u1.length := by rw [e]; simp
          have l2 : q.2.length = X.length + u2.length := by rw [e]; simp
          have := HI2.out.len
          omega
        have z0 : wr.cell? ⟨w.heap.size, 0, none⟩ = some (.int .i64 L) := (blk_cell HS.out.b0 0).trans rfl
        obtain ⟨g10, c10, e10, _, _, _⟩ := Kd.R_form HS.out.pr (by omega)
        subst e10
        obtain ⟨A11, c11, e11⟩ := Kd.R_slice HS.out.wo
        subst e11
        by_cases hlx : (x : Int) < L
        · have hxA : x < rowA.length := by omega
          have hxB : x < rowB.length := by omega
          have hxS : x < sc.length := by omega
          obtain ⟨pa, hpa⟩ : ∃ t, t = rd rowA (x : Int) := ⟨_, rfl⟩
          obtain ⟨pb, hpb⟩ : ∃ t, t = rd rowB (x : Int) := ⟨_, rfl⟩
          have hdrop : sc.drop x = (pa, pb) :: sc.drop (x + 1) := by
            rw [List.drop_eq_getElem_cons hxS, hpa, hpb]
            congr 1
            simp [HSC.out, rd, hxA, hxB]
          have hpA := HRA.out pa (by rw [hpa]; exact rd_mem (by omega) (by omega))
          have hpB := HRB.out pb (by rw [hpb]; exact rd_mem (by omega) (by omega))
          have hvp : VP A B (pa, pb) := ⟨⟨hpA.1, by show pa < _; omega⟩, ⟨hpB.1, by show pb < _; omega⟩⟩
          have hQ := HQ.out
          rw [hdrop, rowGo] at hQ
          obtain ⟨adA_, eA, hxa⟩ := Kd.at_int HCr.out (x : Int) (by omega) (by omega)
          cases eA
          rw [← hpa, Int.toNat_natCast] at hxa
          obtain ⟨adB_, eB, hxb⟩ := Kd.at_int HDr.out (x : Int) (by omega) (by omega)
          cases eB
          rw [← hpb, Int.toNat_natCast] at hxb
          have s6 := (HS.out.be.cell (World.block_lt_of_cell? w _ hxa)).trans hxa
          have s7 := (HS.out.be.cell (World.block_lt_of_cell? w _ hxb)).trans hxb
          have s4 := (HS.out.be.cell (World.block_lt_of_cell? w _ HX1.out)).trans HX1.out
          have s5 := (HS.out.be.cell (World.block_lt_of_cell? w _ HX2.out)).trans HX2.out
          have s0 : wr.cell? ⟨w.heap.size, 1, none⟩ = some (.slice (some ad1) A.length c1) := (blk_cell HS.out.b0 1).trans rfl
          have s1 : wr.cell? ⟨w.heap.size + 1, 1, none⟩ = some (.slice (some ad2) B.length d1) := (blk_cell HS.out.b1 1).trans rfl
          obtain ⟨ce, hce, hMe, hcc, _⟩ := Kd.R_elem HS.out.pr (0, 0) (n : Int) (by omega) (by omega)
          have hce2 := kPr_K (kPr.K_of_M hMe)
          have hgd : S.getD (n : Int).toNat (0, 0) = (a, b) := by simp [List.getD_eq_getElem?_getD, HPN.out]
          rw [hgd] at hce2
          subst hce2
          have s2 : wr.cell? ⟨g10, n * 2, none⟩ = some (.int .i64 a) := hcc 0 _ rfl
          have s3 : wr.cell? ⟨g10, n * 2 + 1, none⟩ = some (.int .i64 b) := hcc 1 _ rfl
          have hnX : n < X.length := (List.getElem?_eq_some_iff.1 HX.out).1
          have HXi : Aside0 (rd_L1 X (n : Int) = wi) := ⟨by simp [rd_L1, List.getD_eq_getElem?_getD, HX.out]⟩
          have HWP : Aside0 (Own.WfP (pa, pb)) := ⟨VP_wf hvp HAB.out.1 HAB.out.2⟩
          clear hdrop hpa hpb hvp hce hcc hMe hgd hxa hxb HQ hpA hpB
          go_wp2
          refine start_ (n := 27) (S := fun w' => w'.cell? ⟨w.heap.size, 1, none⟩ = some (.slice (some ad1) A.length c1) ∧ w'.cell? ⟨w.heap.size + 1, 1, none⟩ = some (.slice (some ad2) B.length d1) ∧ w'.cell? ⟨g10, n * 2, none⟩ = some (.int .i64 a) ∧ w'.cell? ⟨g10, n * 2 + 1, none⟩ = some (.int .i64 b) ∧ w'.cell? (ad1.add a.toNat) = some (.slice (some adA) rowA.length cr) ∧ w'.cell? (ad2.add b.toNat) = some (.slice (some adB) rowB.length dr) ∧ w'.cell? (adA.add x) = some (.int .i64 pa) ∧ w'.cell? (adB.add x) = some (.int .i64 pb)) (ds := []) #[false, false, false, false, false, false, false, false, false, false, false, false, false, false, false, false, false, false, false, false, false, false, false, false, false, false, false] (by kernel_rfl) rfl rfl ⟨s0, s1, s2, s3, s4, s5, s6, s7⟩ (fun hHeld => ?_)
          refine Own.anew_ (wN := wr) (by repeat (first | with_reducible exact Below.refl _ _ | with_reducible apply below_alloc | with_reducible apply pw_below_drewN | with_reducible apply below_drew1)) hHeld (fun wz hzb hHeld => ?_)
          replace HS := Aside0.mk (HS.out.below hzb)
          clear hzb s0 s1 s2 s3 s4 s5 s6 s7 z0
          refine pure_ (i := 0) (N := some 39) (v := ?_) (a' := ?_) #[true, false, false, false, false, false, false, false, false, false, false, false, false, false, false, false, false, false, false, false, false, false, false, false, false, false, false] rfl rfl (by kernel_rfl) (fun _ _ _ h => h) (Or.inl ⟨by rfl, ?_⟩) ?_ ?_
          rotate_left
          · intro w'
            go_simp
            with_reducible rfl
          rotate_left
          · simp only [Act.put, List.setIfInBounds_toArray, List.set_cons_zero, List.set_cons_succ, i64_w, i32_w]
            rfl
          refine take_ (i := 1) (N := some 40) (v := ?_) (a' := ?_) #[true, true, false, false, false, false, false, false, false, false, false, false, false, false, false, false, false, false, false, false, false, false, false, false, false, false, false] rfl rfl (by kernel_rfl) (fun _ _ _ h => h) (Or.inl ⟨by rfl, ?_⟩) hHeld ?_ ?_
          rotate_left
          · rintro w' ⟨s0, s1, s2, s3, s4, s5, s6, s7⟩
            go_simp
            with_reducible rfl
          rotate_left
          · simp only [Act.put, List.setIfInBounds_toArray, List.set_cons_zero, List.set_cons_succ, i64_w, i32_w]
            rfl
          refine pure_ (i := 2) (N := some 41) (v := ?_) (a' := ?_) #[true, true, true, false, false, false, false, false, false, false, false, false, false, false, false, false, false, false, false, false, false, false, false, false, false, false, false] rfl rfl (by kernel_rfl) (fun _ _ _ h => h) (Or.inl ⟨by rfl, ?_⟩) ?_ ?_
          rotate_left
          · intro w'
            go_simp
            with_reducible rfl
          rotate_left
          · simp only [Act.put, List.setIfInBounds_toArray, List.set_cons_zero, List.set_cons_succ, i64_w, i32_w]
            rfl
          refine pure_ (i := 3) (N := some 42) (v := ?_) (a' := ?_) #[true, true, true, true, false, false, false, false, false, false, false, false, false, false, false, false, false, false, false, false, false, false, false, false, false, false, false] rfl rfl (by kernel_rfl) (fun _ _ _ h => h) (Or.inl ⟨by rfl, ?_⟩) ?_ ?_
          rotate_left
          · intro w'
            go_simp
            with_reducible rfl
          rotate_left
          · simp only [Act.put, List.setIfInBounds_toArray, List.set_cons_zero, List.set_cons_succ, i64_w, i32_w]
            rfl
          refine pure_ (i := 4) (N := some 43) (v := ?_) (a' := ?_) #[true, true, true, true, true, false, false, false, false, false, false, false, false, false, false, false, false, false, false, false, false, false, false, false, false, false, false] rfl rfl (by kernel_rfl) (fun _ _ _ h => h) (Or.inl ⟨by rfl, ?_⟩) ?_ ?_
          rotate_left
          · intro w'
            go_simp
            with_reducible rfl
          rotate_left
          · simp only [Act.put, List.setIfInBounds_toArray, List.set_cons_zero, List.set_cons_succ, i64_w, i32_w]
            rfl
          refine pure_ (i := 5) (N := some 44) (v := ?_) (a' := ?_) #[true, true, true, true, true, true, false, false, false, false, false, false, false, false, false, false, false, false, false, false, false, false, false, false, false, false, false] rfl rfl (by kernel_rfl) (fun _ _ _ h => h) (Or.inl ⟨by rfl, ?_⟩) ?_ ?_
          rotate_left
          · intro w'
            go_simp
            with_reducible rfl
          rotate_left
          · simp only [Act.put, List.setIfInBounds_toArray, List.set_cons_zero, List.set_cons_succ, i64_w, i32_w]
            rfl
          refine take_ (i := 6) (N := some 45) (v := ?_) (a' := ?_) #[true, true, true, true, true, true, true, false, false, false, false, false, false, false, false, false, false, false, false, false, false, false, false, false, false, false, false] rfl rfl (by kernel_rfl) (fun _ _ _ h => h) (Or.inl ⟨by rfl, ?_⟩) hHeld ?_ ?_
          rotate_left
          · rintro w' ⟨s0, s1, s2, s3, s4, s5, s6, s7⟩
            go_simp
            with_reducible rfl
          rotate_left
          · simp only [Act.put, List.setIfInBounds_toArray, List.set_cons_zero, List.set_cons_succ, i64_w, i32_w]
            rfl
          refine pure_ (i := 7) (N := some 46) (v := ?_) (a' := ?_) #[true, true, true, true, true, true, true, true, false, false, false, false, false, false, false, false, false, false, false, false, false, false, false, false, false, false, false] rfl rfl (by kernel_rfl) (fun _ _ _ h => h) (Or.inl ⟨by rfl, ?_⟩) ?_ ?_
          rotate_left
          · intro w'
            go_simp
            with_reducible rfl
          rotate_left
          · simp only [Act.put, List.setIfInBounds_toArray, List.set_cons_zero, List.set_cons_succ, i64_w, i32_w]
            rfl
          refine take_ (i := 8) (N := some 47) (v := ?_) (a' := ?_) #[true, true, true, true, true, true, true, true, true, false, false, false, false, false, false, false, false, false, false, false, false, false, false, false, false, false, false] rfl rfl (by kernel_rfl) (fun _ _ _ h => h) (Or.inl ⟨by rfl, ?_⟩) hHeld ?_ ?_
          rotate_left
          · rintro w' ⟨s0, s1, s2, s3, s4, s5, s6, s7⟩
            go_simp
            with_reducible rfl
          rotate_left
          · simp only [Act.put, List.setIfInBounds_toArray, List.set_cons_zero, List.set_cons_succ, i64_w, i32_w]
            rfl
          refine pure_ (i := 9) (N := some 48) (v := ?_) (a' := ?_) #[true, true, true, true, true, true, true, true, true, true, false, false, false, false, false, false, false, false, false, false, false, false, false, false, false, false, false] rfl rfl (by kernel_rfl) (fun _ _ _ h => h) (Or.inl ⟨by rfl, ?_⟩) ?_ ?_
          rotate_left
          · intro w'
            go_simp
            with_reducible rfl
          rotate_left
          · simp only [Act.put, List.setIfInBounds_toArray, List.set_cons_zero, List.set_cons_succ, i64_w, i32_w]
            rfl
          refine pure_ (i := 10) (N := some 49) (v := ?_) (a' := ?_) #[true, true, true, true, true, true, true, true, true, true, true, false, false, false, false, false, false, false, false, false, false, false, false, false, false, false, false] rfl rfl (by kernel_rfl) (fun _ _ _ h => h) (Or.inl ⟨by rfl, ?_⟩) ?_ ?_
          rotate_left
          · intro w'
            go_simp
            with_reducible rfl
          rotate_left
          · simp only [Act.put, List.setIfInBounds_toArray, List.set_cons_zero, List.set_cons_succ, i64_w, i32_w]
            rfl
          refine take_ (i := 11) (N := some 50) (v := ?_) (a' := ?_) #[true, true, true, true, true, true, true, true, true, true, true, true, false, false, false, false, false, false, false, false, false, false, false, false, false, false, false] rfl rfl (by kernel_rfl) (fun _ _ _ h => h) (Or.inl ⟨by rfl, ?_⟩) hHeld ?_ ?_
          rotate_left
          · rintro w' ⟨s0, s1, s2, s3, s4, s5, s6, s7⟩
            go_simp
            with_reducible rfl
          rotate_left
          · simp only [Act.put, List.setIfInBounds_toArray, List.set_cons_zero, List.set_cons_succ, i64_w, i32_w]
            rfl
          refine pure_ (i := 12) (N := some 51) (v := ?_) (a' := ?_) #[true, true, true, true, true, true, true, true, true, true, true, true, true, false, false, false, false, false, false, false, false, false, false, false, false, false, false] rfl rfl (by kernel_rfl) (fun _ _ _ h => h) (Or.inl ⟨by rfl, ?_⟩) ?_ ?_
          rotate_left
          · intro w'
            go_simp
            with_reducible rfl
          rotate_left
          · simp only [Act.put, List.setIfInBounds_toArray, List.set_cons_zero, List.set_cons_succ, i64_w, i32_w]
            rfl
          refine take_ (i := 13) (N := some 52) (v := ?_) (a' := ?_) #[true, true, true, true, true, true, true, true, true, true, true, true, true, true, false, false, false, false, false, false, false, false, false, false, false, false, false] rfl rfl (by kernel_rfl) (fun _ _ _ h => h) (Or.inl ⟨by rfl, ?_⟩) hHeld ?_ ?_
          rotate_left
          · rintro w' ⟨s0, s1, s2, s3, s4, s5, s6, s7⟩
            go_simp
            with_reducible rfl
          rotate_left
          · simp only [Act.put, List.setIfInBounds_toArray, List.set_cons_zero, List.set_cons_succ, i64_w, i32_w]
            rfl
          refine pure_ (i := 14) (N := some 53) (v := ?_) (a' := ?_) #[true, true, true, true, true, true, true, true, true, true, true, true, true, true, true, false, false, false, false, false, false, false, false, false, false, false, false] rfl rfl (by kernel_rfl) (fun _ _ _ h => h) (Or.inl ⟨by rfl, ?_⟩) ?_ ?_
          rotate_left
          · intro w'
            go_simp
            with_reducible rfl
          rotate_left
          · simp only [Act.put, List.setIfInBounds_toArray, List.set_cons_zero, List.set_cons_succ, i64_w, i32_w]
            rfl
          refine pure_ (i := 15) (N := some 54) (v := ?_) (a' := ?_) #[true, true, true, true, true, true, true, true, true, true, true, true, true, true, true, true, false, false, false, false, false, false, false, false, false, false, false] rfl rfl (by kernel_rfl) (fun _ _ _ h => h) (Or.inl ⟨by rfl, ?_⟩) ?_ ?_
          rotate_left
          · intro w'
            go_simp
            with_reducible rfl
          rotate_left
          · simp only [Act.put, List.setIfInBounds_toArray, List.set_cons_zero, List.set_cons_succ, i64_w, i32_w]
            rfl
          refine pure_ (i := 16) (N := some 55) (v := ?_) (a' := ?_) #[true, true, true, true, true, true, true, true, true, true, true, true, true, true, true, true, true, false, false, false, false, false, false, false, false, false, false] rfl rfl (by kernel_rfl) (fun _ _ _ h => h) (Or.inl ⟨by rfl, ?_⟩) ?_ ?_
          rotate_left
          · intro w'
            go_simp
            with_reducible rfl
          rotate_left
          · simp only [Act.put, List.setIfInBounds_toArray, List.set_cons_zero, List.set_cons_succ, i64_w, i32_w]
            rfl
          refine pure_ (i := 17) (N := some 56) (v := ?_) (a' := ?_) #[true, true, true, true, true, true, true, true, true, true, true, true, true, true, true, true, true, true, false, false, false, false, false, false, false, false, false] rfl rfl (by kernel_rfl) (fun _ _ _ h => h) (Or.inl ⟨by rfl, ?_⟩) ?_ ?_
          rotate_left
          · intro w'
            go_simp
            with_reducible rfl
          rotate_left
          · simp only [Act.put, List.setIfInBounds_toArray, List.set_cons_zero, List.set_cons_succ, i64_w, i32_w]
            rfl
          refine take_ (i := 18) (N := some 57) (v := ?_) (a' := ?_) #[true, true, true, true, true, true, true, true, true, true, true, true, true, true, true, true, true, true, true, false, false, false, false, false, false, false, false] rfl rfl (by kernel_rfl) (fun _ _ _ h => h) (Or.inl ⟨by rfl, ?_⟩) hHeld ?_ ?_
          rotate_left
          · rintro w' ⟨s0, s1, s2, s3, s4, s5, s6, s7⟩
            go_simp
            with_reducible rfl
          rotate_left
          · simp only [Act.put, List.setIfInBounds_toArray, List.set_cons_zero, List.set_cons_succ, i64_w, i32_w]
            rfl
          refine pure_ (i := 19) (N := some 58) (v := ?_) (a' := ?_) #[true, true, true, true, true, true, true, true, true, true, true, true, true, true, true, true, true, true, true, true, false, false, false, false, false, false, false] rfl rfl (by kernel_rfl) (fun _ _ _ h => h) (Or.inl ⟨by rfl, ?_⟩) ?_ ?_
          rotate_left
          · intro w'
            go_simp
            with_reducible rfl
          rotate_left
          · simp only [Act.put, List.setIfInBounds_toArray, List.set_cons_zero, List.set_cons_succ, i64_w, i32_w]
            rfl
          refine take_ (i := 20) (N := some 59) (v := ?_) (a' := ?_) #[true, true, true, true, true, true, true, true, true, true, true, true, true, true, true, true, true, true, true, true, true, false, false, false, false, false, false] rfl rfl (by kernel_rfl) (fun _ _ _ h => h) (Or.inl ⟨by rfl, ?_⟩) hHeld ?_ ?_
          rotate_left
          · rintro w' ⟨s0, s1, s2, s3, s4, s5, s6, s7⟩
            go_simp
            with_reducible rfl
          rotate_left
          · simp only [Act.put, List.setIfInBounds_toArray, List.set_cons_zero, List.set_cons_succ, i64_w, i32_w]
            rfl
          refine pure_ (i := 21) (N := some 60) (v := ?_) (a' := ?_) #[true, true, true, true, true, true, true, true, true, true, true, true, true, true, true, true, true, true, true, true, true, true, false, false, false, false, false] rfl rfl (by kernel_rfl) (fun _ _ _ h => h) (Or.inl ⟨by rfl, ?_⟩) ?_ ?_
          rotate_left
          · intro w'
            go_simp
            with_reducible rfl
          rotate_left
          · simp only [Act.put, List.setIfInBounds_toArray, List.set_cons_zero, List.set_cons_succ, i64_w, i32_w]
            rfl
          refine pure_ (i := 22) (N := some 61) (v := ?_) (a' := ?_) #[true, true, true, true, true, true, true, true, true, true, true, true, true, true, true, true, true, true, true, true, true, true, true, false, false, false, false] rfl rfl (by kernel_rfl) (fun _ _ _ h => h) (Or.inl ⟨by rfl, ?_⟩) ?_ ?_
          rotate_left
          · intro w'
            go_simp
            with_reducible rfl
          rotate_left
          · simp only [Act.put, List.setIfInBounds_toArray, List.set_cons_zero, List.set_cons_succ, i64_w, i32_w]
            rfl
          refine take_ (i := 23) (N := some 62) (v := ?_) (a' := ?_) #[true, true, true, true, true, true, true, true, true, true, true, true, true, true, true, true, true, true, true, true, true, true, true, true, false, false, false] rfl rfl (by kernel_rfl) (fun _ _ _ h => h) (Or.inl ⟨by rfl, ?_⟩) hHeld ?_ ?_
          rotate_left
          · rintro w' ⟨s0, s1, s2, s3, s4, s5, s6, s7⟩
            go_simp
            with_reducible rfl
          rotate_left
          · simp only [Act.put, List.setIfInBounds_toArray, List.set_cons_zero, List.set_cons_succ, i64_w, i32_w]
            rfl
          refine pure_ (i := 24) (N := some 63) (v := ?_) (a' := ?_) #[true, true, true, true, true, true, true, true, true, true, true, true, true, true, true, true, true, true, true, true, true, true, true, true, true, false, false] rfl rfl (by kernel_rfl) (fun _ _ _ h => h) (Or.inl ⟨by rfl, ?_⟩) ?_ ?_
          rotate_left
          · intro w'
            go_simp
            with_reducible rfl
          rotate_left
          · simp only [Act.put, List.setIfInBounds_toArray, List.set_cons_zero, List.set_cons_succ, i64_w, i32_w]
            rfl
          have hHeld0 := Aside0.mk hHeld
          refine one_ (i := 25) (N := some 15) #[true, true, true, true, true, true, true, true, true, true, true, true, true, true, true, true, true, true, true, true, true, true, true, true, true, true, false] rfl rfl (by kernel_rfl) (by decide) (fun K hK => ?_)
          refine box_step (by rfl) (N := 15) rfl (cs := #[.int .i64 0, .int .i64 0]) (t := 59) ?hr ?_
          case hr => first | (go_simp; done) | (go_simp; rfl)
          intro g15 hg w15 hbox hb_
          have HS2 := Aside0.mk (HS.out.below hb_)
          have B15 := Aside0.mk hbox
          have L15 : Aside0 (w.heap.size ≤ g15 ∧ wz.heap.size ≤ g15) := ⟨by rw [hg]; exact ⟨HS.out.be.size, Nat.le_refl _⟩⟩
          have HZ15 := Aside0.mk hb_
          have hH : w15.cell? ⟨w.heap.size, 1, none⟩ = some (.slice (some ad1) A.length c1) ∧ w15.cell? ⟨w.heap.size + 1, 1, none⟩ = some (.slice (some ad2) B.length d1) ∧ w15.cell? ⟨g10, n * 2, none⟩ = some (.int .i64 a) ∧ w15.cell? ⟨g10, n * 2 + 1, none⟩ = some (.int .i64 b) ∧ w15.cell? (ad1.add a.toNat) = some (.slice (some adA) rowA.length cr) ∧ w15.cell? (ad2.add b.toNat) = some (.slice (some adB) rowB.length dr) ∧ w15.cell? (adA.add x) = some (.int .i64 pa) ∧ w15.cell? (adB.add x) = some (.int .i64 pb) := ⟨(hb_.cell (World.block_lt_of_cell? wz _ hHeld.1)).trans hHeld.1, (hb_.cell (World.block_lt_of_cell? wz _ hHeld.2.1)).trans hHeld.2.1, (hb_.cell (World.block_lt_of_cell? wz _ hHeld.2.2.1)).trans hHeld.2.2.1, (hb_.cell (World.block_lt_of_cell? wz _ hHeld.2.2.2.1)).trans hHeld.2.2.2.1, (hb_.cell (World.block_lt_of_cell? wz _ hHeld.2.2.2.2.1)).trans hHeld.2.2.2.2.1, (hb_.cell (World.block_lt_of_cell? wz _ hHeld.2.2.2.2.2.1)).trans hHeld.2.2.2.2.2.1, (hb_.cell (World.block_lt_of_cell? wz _ hHeld.2.2.2.2.2.2.1)).trans hHeld.2.2.2.2.2.2.1, (hb_.cell (World.block_lt_of_cell? wz _ hHeld.2.2.2.2.2.2.2)).trans hHeld.2.2.2.2.2.2.2⟩
          clear hg hbox hb_ hHeld
          refine hK.out _ _ hH (fun hHeld => ?_)
          clear hK K
          refine norm_ (a' := ?_) ?_ ?_
          rotate_left
          · show Act.put _ (some 15) _ = _
            simp only [Act.put, List.setIfInBounds_toArray, List.set_cons_zero, List.set_cons_succ, i64_w, i32_w]
            rfl
          clear hH
          refine one_ (i := 26) (N := none) #[true, true, true, true, true, true, true, true, true, true, true, true, true, true, true, true, true, true, true, true, true, true, true, true, true, true, true] rfl rfl (by kernel_rfl) (by decide) (fun K hK => ?_)
          have q0 := (blk_cell B15.out 0).trans rfl
          have q1 := (blk_cell B15.out 1).trans rfl
          have fq0 := blk_frozen B15.out 0
          have fq1 := blk_frozen B15.out 1
          refine skip_ (w1 := (w15.setCell ⟨g15, 0, none⟩ (.int .i64 pa)).setCell ⟨g15, 1, none⟩ (.int .i64 pb)) (by rfl) rfl ?_ ?_
          · first | (go_simp; done) | (go_simp; rfl)
          have FR : ∀ ad : Addr, ad.block < wz.heap.size → ∀ u, w15.cell? ad = u → ((w15.setCell ⟨g15, 0, none⟩ (.int .i64 pa)).setCell ⟨g15, 1, none⟩ (.int .i64 pb)).cell? ad = u := fun ad hlt u hu => by
            have hne : ad.block ≠ g15 := by have := L15.out.2; omega
            exact (cell_far (p := ⟨g15, 1, none⟩) (a := ad) hne _).trans ((cell_far (p := ⟨g15, 0, none⟩) (a := ad) hne _).trans hu)
          refine hK.out _ _ ⟨FR _ (World.block_lt_of_cell? wz _ hHeld0.out.1) _ hHeld.1, FR _ (World.block_lt_of_cell? wz _ hHeld0.out.2.1) _ hHeld.2.1, FR _ (World.block_lt_of_cell? wz _ hHeld0.out.2.2.1) _ hHeld.2.2.1, FR _ (World.block_lt_of_cell? wz _ hHeld0.out.2.2.2.1) _ hHeld.2.2.2.1, FR _ (World.block_lt_of_cell? wz _ hHeld0.out.2.2.2.2.1) _ hHeld.2.2.2.2.1, FR _ (World.block_lt_of_cell? wz _ hHeld0.out.2.2.2.2.2.1) _ hHeld.2.2.2.2.2.1, FR _ (World.block_lt_of_cell? wz _ hHeld0.out.2.2.2.2.2.2.1) _ hHeld.2.2.2.2.2.2.1, FR _ (World.block_lt_of_cell? wz _ hHeld0.out.2.2.2.2.2.2.2) _ hHeld.2.2.2.2.2.2.2⟩ (fun hHeld2 => ?_)
          clear hK K FR hHeld hHeld2 hHeld0 q0 q1 fq0 fq1
          refine done_ (by kernel_rfl) ?_
          have B15b := Aside0.mk (blk_put (cs := #[.int .i64 pa, .int .i64 0]) (blk_put (cs := #[.int .i64 0, .int .i64 0]) B15.out 0 (.int .i64 pa) rfl) 1 (.int .i64 pb) rfl)
          have HZb : Aside0 (Below wz.heap.size wz ((w15.setCell ⟨g15, 0, none⟩ (.int .i64 pa)).setCell ⟨g15, 1, none⟩ (.int .i64 pb))) := ⟨below_set (below_set HZ15.out L15.out.2) L15.out.2⟩
          generalize (w15.setCell ⟨g15, 0, none⟩ (.int .i64 pa)).setCell ⟨g15, 1, none⟩ (.int .i64 pb) = wp at B15b HZb ⊢
          replace HS := Aside0.mk (HS.out.below HZb.out)
          clear HS2 B15 HZ15 HZb L15
          have y0 : wp.cell? ⟨g15, 0, none⟩ = some (.int .i64 pa) := (blk_cell B15b.out 0).trans rfl
          have y1 : wp.cell? ⟨g15, 1, none⟩ = some (.int .i64 pb) := (blk_cell B15b.out 1).trans rfl
          by_cases hin : (pa, pb) ∈ S
          · rw [if_pos (show (pa, pb) ∈ (S, X).1 from hin)] at hQ
            have HQ2 : Aside0 (rowGo wi ((x + 1 : Nat) : Int) (sc.drop (x + 1)) (S, X) = q) := ⟨by rw [← hQ]; simp⟩
            have HIN : Aside0 (decide ((pa, pb) ∈ S) = true) := ⟨decide_eq_true hin⟩
            clear hQ hin
            go_wp2_with (first | (at_lookup; refine Own.PSet.look_at rfl (.tmp 64) (.tmp 65) rfl rfl HS.out.ma arrP Try.underlying3 szP Try.underlying63 Try.underlying4 (Try.zeroValue4 _) (pa, pb) HWP.out rfl ?_; rw [HIN.out]) | fail)
            go_roundw
            case rel => first | exact ⟨x + 1, S, X, by go_num, by omega, ⟨HS.out.below (by repeat (first | with_reducible exact Below.refl _ _ | with_reducible apply below_alloc | with_reducible apply pw_below_drewN | with_reducible apply below_drew1))⟩, HQ2, HX, HPN⟩ | (repeat (first | exact ⟨⟨x + 1, S, X, by go_num, by omega, ⟨HS.out.below (by repeat (first | with_reducible exact Below.refl _ _ | with_reducible apply below_alloc | with_reducible apply pw_below_drewN | with_reducible apply below_drew1))⟩, HQ2, HX, HPN⟩, rfl⟩ | refine ⟨_, ?_⟩))
            case measure => simp [intOf]; omega
          · rw [if_neg (show ¬ (pa, pb) ∈ (S, X).1 from hin)] at hQ
            have HQ2 : Aside0 (rowGo wi ((x + 1 : Nat) : Int) (sc.drop (x + 1)) (S ++ [(pa, pb)], X ++ [wi ++ [(x : Int)]]) = q) := ⟨by rw [← hQ]; simp⟩
            have HIN : Aside0 (decide ((pa, pb) ∈ S) = false) := ⟨decide_eq_false hin⟩
            have NG : Aside0 (some g15 ≠ some g12) := ⟨fun e_ => by
              obtain ⟨es, clock, hb_⟩ := HS.out.ma.is_map
              injection e_ with e_
              subst e_
              have := B15b.out
              rw [hb_] at this
              cases this⟩
            clear hQ hin
            go_wp2_with (first
              | (at_lookup; refine Own.PSet.look_at rfl (.tmp 64) (.tmp 65) rfl rfl HS.out.ma arrP Try.underlying3 szP Try.underlying63 Try.underlying4 (Try.zeroValue4 _) (pa, pb) HWP.out rfl ?_; rw [HIN.out])
              | (at_mapUpdate; refine Own.PSet.put_at rfl (.tmp 68) (.tmp 69) (.const (.bool true)) rfl rfl HS.out.ma arrP Try.underlying3 szP Try.underlying63 Try.underlying4 (by simp only [maxLen]; omega) (pa, pb) HWP.out rfl rfl ?_; intro w8 hm hg; have HS1 := Aside0.mk (HS.out.met hm hg); have B8 := Aside0.mk (blk_grown B15b.out hg NG.out); clear hm hg HS B15b y0 y1 NG; have y0 : w8.cell? ⟨g15, 0, none⟩ = some (.int .i64 pa) := (blk_cell B8.out 0).trans rfl; have y1 : w8.cell? ⟨g15, 1, none⟩ = some (.int .i64 pb) := (blk_cell B8.out 1).trans rfl)
              | ((with_reducible refine gate_builtin (b := .append) (xs := #[.tmp 70, .tmp 72]) rfl ?_); at_builtin; refine Kd.R_append kPr (w0 := w) w.heap.size rfl (.tmp 70) (.tmp 72) 56 59 (.agg #[.int .i64 0, .int .i64 0]) 16 rfl Try.underlying56 infoP rfl (by decide) (by omega) (.slice (some ⟨g10, 0, none⟩) S.length c10) S (pa, pb) [.int .i64 pa, .int .i64 pb] (fun _ => True) (fun _ => False) rfl rfl (kPr_M _ _ _ (pa, pb)) (fun _ hk => hk.elim) (fun _ _ => trivial) ?aO ?aB ?aS ?aL ?_; (case aO => exact (HS1.out.below (by repeat (first | with_reducible exact Below.refl _ _ | with_reducible apply below_alloc | with_reducible apply pw_below_drewN | with_reducible apply below_drew1))).pr); (case aB => exact (HS1.out.below (by repeat (first | with_reducible exact Below.refl _ _ | with_reducible apply below_alloc | with_reducible apply pw_below_drewN | with_reducible apply below_drew1))).be); (case aS => exact (HS1.out.below (by repeat (first | with_reducible exact Below.refl _ _ | with_reducible apply below_alloc | with_reducible apply pw_below_drewN | with_reducible apply below_drew1))).be.size); (case aL => omega); intro v10n w9 ho hb_ hg hat; have HS2 := Aside0.mk ((HS1.out.below (by repeat (first | with_reducible exact Below.refl _ _ | with_reducible apply below_alloc | with_reducible apply pw_below_drewN | with_reducible apply below_drew1))).push ho hb_ hg); clear ho hb_ hg hat HS1 y0 y1)
              | ((with_reducible refine gate_dst (N := 75) rfl ?_); refine Kd.R_lit (Kd.int .i64) _ 3 rfl (N := 75) rfl (xs := ([] : List Int)) (inner := []) (ok := fun _ => True) (okp := fun _ => True) ?hr (Reps.none _ _) (fun _ hk => hk) trivial (Below.refl _ _) (Nat.le_refl _) (by simp) ?_; (case hr => first | (go_simp; done) | (go_simp; rfl)); intro vl w10 ho hb_ _ _; have HS3 := Aside0.mk ((HS2.out.below (by repeat (first | with_reducible exact Below.refl _ _ | with_reducible apply below_alloc | with_reducible apply pw_below_drewN | with_reducible apply below_drew1))).lit ho hb_); clear ho hb_ HS2; obtain ⟨ad5, Aw, cw, ea5, hx5, _, hC5⟩ := at_L1 (Kd.R_reads' HS3.out.wo).2.2 (n : Int) (by omega) (by omega); subst ea5; rw [HXi.out, Int.toNat_natCast] at hx5; rw [HXi.out] at hC5; have HCw := Aside0.mk hC5; clear hC5)
              | ((with_reducible refine gate_builtin (b := .append) (xs := #[.tmp 75, .tmp 79]) rfl ?_); at_builtin; refine Kd.R_append_rows (Kd.int .i64) (w0 := w) w.heap.size rfl (.tmp 75) (.tmp 79) 23 3 (.int .i64 0) 8 rfl Try.underlying23 info3 rfl (by decide) (by omega) vl [] wi _ _ _ (fun _ => True) (fun _ => False) rfl rfl ?aO ?aR (fun _ _ h => h) (fun _ h => h.elim) (fun _ _ => trivial) ?aB ?aS ?aL ?_; (case aR => exact Kd.C_below HCw.out (by repeat (first | with_reducible exact Below.refl _ _ | with_reducible apply below_alloc | with_reducible apply pw_below_drewN | with_reducible apply below_drew1))); (case aB => exact (HS3.out.below (by repeat (first | with_reducible exact Below.refl _ _ | with_reducible apply below_alloc | with_reducible apply pw_below_drewN | with_reducible apply below_drew1))).be); (case aO => exact (HS3.out.below (by repeat (first | with_reducible exact Below.refl _ _ | with_reducible apply below_alloc | with_reducible apply pw_below_drewN | with_reducible apply below_drew1))).li); (case aS => exact (HS3.out.below (by repeat (first | with_reducible exact Below.refl _ _ | with_reducible apply below_alloc | with_reducible apply pw_below_drewN | with_reducible apply below_drew1))).be.size); (case aL => simp; omega); intro vr w11 ho hb_ hg hat; have HS4 := Aside0.mk ((HS3.out.below (by repeat (first | with_reducible exact Below.refl _ _ | with_reducible apply below_alloc | with_reducible apply pw_below_drewN | with_reducible apply below_drew1))).grow ho hb_ hg hat); clear ho hb_ hg hat HS3 HCw hx5)
              | ((with_reducible refine gate_builtin (b := .append) (xs := #[.tmp 80, .tmp 82]) rfl ?_); at_builtin; refine Kd.R_append (Kd.int .i64) (w0 := w) w.heap.size rfl (.tmp 80) (.tmp 82) 23 3 (.int .i64 0) 8 rfl Try.underlying23 info3 rfl (by decide) (by omega) vr ([] ++ wi) (x : Int) [.int .i64 (x : Int)] (fun _ => True) (fun _ => False) rfl rfl ?aP (fun _ hk => hk.elim) (fun _ _ => trivial) ?aO ?aB ?aS ?aL ?_; (case aP => exact rfl); (case aO => exact (HS4.out.below (by repeat (first | with_reducible exact Below.refl _ _ | with_reducible apply below_alloc | with_reducible apply pw_below_drewN | with_reducible apply below_drew1))).li); (case aB => exact (HS4.out.below (by repeat (first | with_reducible exact Below.refl _ _ | with_reducible apply below_alloc | with_reducible apply pw_below_drewN | with_reducible apply below_drew1))).be); (case aS => exact (HS4.out.below (by repeat (first | with_reducible exact Below.refl _ _ | with_reducible apply below_alloc | with_reducible apply pw_below_drewN | with_reducible apply below_drew1))).be.size); (case aL => simp; omega); intro vs w12 ho hb_ hg hat; have HS5 := Aside0.mk ((HS4.out.below (by repeat (first | with_reducible exact Below.refl _ _ | with_reducible apply below_alloc | with_reducible apply pw_below_drewN | with_reducible apply below_drew1))).grow ho hb_ hg hat); clear ho hb_ hg hat HS4; obtain ⟨ys, hys⟩ : ∃ y_, y_ = ([] ++ wi ++ [(x : Int)]) := ⟨_, rfl⟩; rw [← hys] at HS5; have HY := Aside0.mk hys; clear hys; obtain ⟨As, cs_, es⟩ := Kd.R_slice HS5.out.li; subst es)
              | ((with_reducible refine gate_builtin (b := .append) (xs := #[.tmp 74, .tmp 84]) rfl ?_); at_builtin; refine Kd.R_append (Kd.slice 3 (Kd.int .i64)) (w0 := w) w.heap.size rfl (.tmp 74) (.tmp 84) 22 23 (.slice none 0 0) 24 rfl Try.underlying22 info23 rfl (by decide) (by omega) (.slice (some ad5) X.length c11) X ys [.slice As ys.length cs_] (fun _ => True) (fun k_ => some k_ = (Value.slice As ys.length cs_).ownBlock) rfl rfl ?aM ?aK (fun _ _ => trivial) ?aO ?aB ?aS ?aL ?_; (case aM => exact (HS5.out.below (by repeat (first | with_reducible exact Below.refl _ _ | with_reducible apply below_alloc | with_reducible apply pw_below_drewN | with_reducible apply below_drew1))).mem); (case aK => exact (HS5.out.below (by repeat (first | with_reducible exact Below.refl _ _ | with_reducible apply below_alloc | with_reducible apply pw_below_drewN | with_reducible apply below_drew1))).okp); (case aO => exact (HS5.out.below (by repeat (first | with_reducible exact Below.refl _ _ | with_reducible apply below_alloc | with_reducible apply pw_below_drewN | with_reducible apply below_drew1))).words); (case aB => exact (HS5.out.below (by repeat (first | with_reducible exact Below.refl _ _ | with_reducible apply below_alloc | with_reducible apply pw_below_drewN | with_reducible apply below_drew1))).be); (case aS => exact (HS5.out.below (by repeat (first | with_reducible exact Below.refl _ _ | with_reducible apply below_alloc | with_reducible apply pw_below_drewN | with_reducible apply below_drew1))).be.size); (case aL => omega); intro v11n w13 ho hb_ hg hat; have HS6 := Aside0.mk ((HS5.out.below (by repeat (first | with_reducible exact Below.refl _ _ | with_reducible apply below_alloc | with_reducible apply pw_below_drewN | with_reducible apply below_drew1))).done ho hb_ hg); clear ho hb_ hg hat HS5)
              | fail)
            go_roundw
            case rel => first | exact ⟨x + 1, S ++ [(pa, pb)], X ++ [wi ++ [(x : Int)]], by go_num, by omega, ⟨(show Own.Fst w _ _ _ g12 _ _ (S ++ [(pa, pb)]) (S ++ [(pa, pb)]) (X ++ [wi ++ [(x : Int)]]) from by have h_ := HS6.out; rw [HY.out, List.nil_append] at h_; exact h_).below (by repeat (first | with_reducible exact Below.refl _ _ | with_reducible apply below_alloc | with_reducible apply pw_below_drewN | with_reducible apply below_drew1))⟩, HQ2, ⟨by rw [List.getElem?_append_left hnX]; exact HX.out⟩, ⟨by rw [List.getElem?_append_left hSn]; exact HPN.out⟩⟩ | (repeat (first | exact ⟨⟨x + 1, S ++ [(pa, pb)], X ++ [wi ++ [(x : Int)]], by go_num, by omega, ⟨(show Own.Fst w _ _ _ g12 _ _ (S ++ [(pa, pb)]) (S ++ [(pa, pb)]) (X ++ [wi ++ [(x : Int)]]) from by have h_ := HS6.out; rw [HY.out, List.nil_append] at h_; exact h_).below (by repeat (first | with_reducible exact Below.refl _ _ | with_reducible apply below_alloc | with_reducible apply pw_below_drewN | with_reducible apply below_drew1))⟩, HQ2, ⟨by rw [List.getElem?_append_left hnX]; exact HX.out⟩, ⟨by rw [List.getElem?_append_left hSn]; exact HPN.out⟩⟩, rfl⟩ | refine ⟨_, ?_⟩))
            case measure => simp [intOf]; omega
        · have hd : sc.drop x = [] := by
            have := HLS.out
            rw [List.drop_eq_nil_iff]; omega
          have hQ := HQ.out
          rw [hd, rowGo] at hQ
          subst hQ
          clear hd HQ
          go_wp2
          go_roundw
          case rel => first | exact ⟨n + 1, (S, X), by go_num, by omega, ⟨HS.out.below (by repeat (first | with_reducible exact Below.refl _ _ | with_reducible apply below_alloc | with_reducible apply pw_below_drewN | with_reducible apply below_drew1))⟩, HI2, HC2, HF2⟩ | (repeat (first | exact ⟨⟨n + 1, (S, X), by go_num, by omega, ⟨HS.out.below (by repeat (first | with_reducible exact Below.refl _ _ | with_reducible apply below_alloc | with_reducible apply pw_below_drewN | with_reducible apply below_drew1))⟩, HI2, HC2, HF2⟩, rfl⟩ | refine ⟨_, ?_⟩))
          case measure => simp [intOf]; omega
    · have HF2 : Aside0 (p = bfsP A B i0 k0) := ⟨by
        rw [← HF.out]
        cases hd : nb - n with
        | zero => rfl
        | succ d => rw [bfsN, if_neg hlt]⟩
      clear HI HC HF
      go_wp2
      go_ret2
      exact ⟨_, _, rfl, by rw [← HF2.out]; exact HS.out.pr, by rw [← HF2.out]; exact HS.out.wo, HS.out.be⟩
end Go.Proofs.Ytadhbepoblllhaa.P
