/- The walk of impl.groupNumbers (printed by gen_gg.py). -/
import Derived.Test.YtcilbmbgdcepgaaYFnExactAddsWithVGg
import Derived.Test.YtcilbmbgdcepgaaYFnExactAddsWithPx86
import Derived.Test.YtcilbmbgdcepgaaYFnExactAddsWithPx85
namespace Go.Proofs.Ytcilbmbgdcepgaa.P
open Go.RowKit YtcilbmbgdcepgaaW.PrintWords YtcilbmbgdcepgaaW.PrintLast YtcilbmbgdcepgaaW.PrintMore Own A
set_option linter.unusedVariables false
set_option linter.unusedSimpArgs false
theorem impl_isGeared_E (x : S71) : impl_isGeared.f x.f0 x.f1 = some (gearB x) := by
 unfold impl_isGeared.f gearB
 by_cases h : x.f0 = 6
 ·rw [if_pos h, decide_eq_true h, Bool.true_or]
 ·rw [if_neg h, decide_eq_false h, Bool.false_or]; rfl
/-! ### impl_groupNumbers: function 77 -/
def impl_groupNumbers.f (k : Nat) (a0_0 : Int) (a0_1 : Int) (l0_2 : List (S71)) : Option (List Int) := if BoOk a0_0 a0_1 l0_2 then some (grpL a0_0.toNat a0_1.toNat l0_2) else none
theorem impl_groupNumbers.mono : ∀ a0 a1 a2 k, LeO (impl_groupNumbers.f k a0 a1 a2) (impl_groupNumbers.f (k + 1) a0 a1 a2) := fun _ _ _ _ _ h => h
set_option maxHeartbeats 8000000 in
set_option maxRecDepth 100000 in
theorem impl_groupNumbers.calls (k : Nat) (a0_0 : Int) (a0_1 : Int) (A0_2 : Option Addr) (c0_2 : Nat) (l0_2 : List (S71)) (r : List Int) (w : World) (hr0_2 : Kd.C k71 w A0_2 l0_2.length l0_2) (hc0_2 : l0_2.length ≤ c0_2) (h : impl_groupNumbers.f k a0_0 a0_1 l0_2 = some r) :
  Calls Try.prog 77 #[.agg #[.int .i64 a0_0, .int .i64 a0_1, .slice A0_2 l0_2.length c0_2]] w fun e w' => ∃ v0_ : Value, e = .returned (v0_) ∧ Kd.R (Kd.int .i64) 3 w' w.heap.size (fun _ => True) v0_ r ∧ Below w.heap.size w w' := by
 have hu24 := Try.underlying24
 have hu71 := Try.underlying71
 have hu39 := Try.underlying39
 unfold impl_groupNumbers.f at h
 by_cases hk : BoOk a0_0 a0_1 l0_2
 case neg => rw [if_neg hk] at h; simp at h
 rw [if_pos hk] at h
 simp only [Option.some.injEq] at h
 subst h
 obtain ⟨R, rfl⟩ : ∃ m : Nat, a0_0 = (m : Int) := ⟨a0_0.toNat, by have := hk.1.1; omega⟩
 obtain ⟨cn, rfl⟩ : ∃ m : Nat, a0_1 = (m : Int) := ⟨a0_1.toNat, by have := hk.2.1.1; omega⟩
 have hR10 : R ≤ 10 := by have := hk.1.2; omega
 have hR1 : 1 ≤ R := by have := hk.1.1; omega
 have hc1 : 1 ≤ cn := by have := hk.2.1.1; omega
 have hc9 : cn ≤ 9 := by have := hk.2.1.2; omega
 have hn90 := hk.len
 have hn : l0_2.length = R * cn := by have h_ := hk.2.2.1; rw [← Int.natCast_mul] at h_; exact Int.ofNat.inj h_
 have hn0 : 0 < l0_2.length := by rw [hn]; exact Nat.mul_pos hR1 hc1
 have NE : Aside0 (∀ i < l0_2.length, impl_besideOf.f 5 (R : Int) (cn : Int) l0_2 (i : Int) = some (natI (nearL R cn i))) := ⟨fun i hi => impl_besideOf_near R cn l0_2 hR10 hc1 hc9 i (by rw [← hn]; exact hi)⟩
 have HLT : Aside0 (∀ i < l0_2.length, ∀ x ∈ nearL R cn i, x < l0_2.length) := ⟨fun i hi x hx => by rw [hn] at hi ⊢; exact nearL_lt R cn i hi x hx⟩
 unfold grpL
 rw [Int.toNat_natCast, Int.toNat_natCast, ← hn]
 have HRC := Aside0.mk hn.symm
 obtain ⟨Q, hQ⟩ : ∃ Q, groupsL R cn l0_2 l0_2.length 0 0 (List.replicate l0_2.length (-1)) = Q := ⟨_, rfl⟩
 rw [hQ]
 have HQ0 := Aside0.mk hQ
 obtain ⟨ad, e_, _, _⟩ := at_T71 hr0_2 0 (by omega) (by omega)
 subst e_
 have HC := Aside0.mk hr0_2
 have HCC := Aside0.mk hc0_2
 have BA := Aside0.mk (blk_new w (.cells #[.int .i64 (R : Int), .int .i64 (cn : Int), .slice (some ad) l0_2.length c0_2] 24))
 have HB0 := Aside0.mk (below_alloc (Below.refl w.heap.size w) (.cells #[.int .i64 (R : Int), .int .i64 (cn : Int), .slice (some ad) l0_2.length c0_2] 24))
 clear hr0_2 hc0_2 hk hn hQ hR1 hR10 hc1 hc9
 go_enter Try.func77, Try.ntmps77
 go_wp2_with (first
  | ((with_reducible refine gate_dst (N := 15) rfl ?_); refine Kd.R_make (Kd.int .i64) (w0 := w) w.heap.size 3 rfl (N := 15) rfl 39 _ _ rfl (l0_2.length : Int) rfl rfl Try.underlying39 (.int .i64 0) 8 info3 rfl (by decide) (by omega) 0 (ok := fun _ => True) (okp := fun _ => False) rfl (fun _ hk => hk.elim) trivial (by omega) (by omega) HB0.out HB0.out.size ?_; intro v2 w2 hR hb hg _; rw [Int.toNat_natCast] at hR; obtain ⟨go, co, er, _, _, _⟩ := Kd.R_form hR (by simp; omega); replace er : v2 = .slice (some ⟨go, 0, none⟩) l0_2.length co := (by rw [er]; simp); subst er; have HS0 : Aside0 (GgS w w2 #[.int .i64 (R : Int), .int .i64 (cn : Int), .slice (some ad) l0_2.length c0_2] go l0_2.length co (List.replicate 0 (-1) ++ List.replicate (l0_2.length - 0) 0) (.slice none 0 0) []) := ⟨GgS_new BA.out hR hg HB0.out⟩; clear hR hb hg BA HB0)
  | fail)
 go_loopw [18] (fun v18 wr => ∃ (i : Nat), v18 = .int .i64 i ∧ i ≤ l0_2.length ∧ Aside0 (GgS w wr #[.int .i64 (R : Int), .int .i64 (cn : Int), .slice (some ad) l0_2.length c0_2] go l0_2.length co (List.replicate i (-1) ++ List.replicate (l0_2.length - i) 0) (.slice none 0 0) [])) (fun i _ => l0_2.length - (intOf i).toNat)
 case atStart => exact ⟨0, rfl, Nat.zero_le _, HS0⟩
 case round =>
  clear HS0
  obtain ⟨i, rfl, hi, HS⟩ := hrel
  by_cases hlt : i < l0_2.length
  ·obtain ⟨y0, fy0⟩ := HS.out.cell i hlt
   go_wp2
   have HS2 := Aside0.mk (HS.out.put i (-1))
   rw [fill_step _ _ hlt] at HS2
   clear HS y0 fy0
   generalize wr.setCell ⟨go, i, none⟩ (.int .i64 (-1)) = wn at HS2 ⊢
   (try go_wp2)
   go_roundw
   case rel => first | exact ⟨i + 1, by go_num, by omega, HS2⟩ | ((repeat apply Exists.intro); exact ⟨⟨i + 1, by go_num, by omega, HS2⟩, rfl⟩)
   case measure => simp [intOf]; omega
  ·obtain rfl : i = l0_2.length := by omega
   have HSE : Aside0 (GgS w wr #[.int .i64 (R : Int), .int .i64 (cn : Int), .slice (some ad) l0_2.length c0_2] go l0_2.length co (List.replicate l0_2.length (-1)) (.slice none 0 0) []) := ⟨by have h_ := HS.out; rw [Nat.sub_self, List.replicate_zero, List.append_nil] at h_; exact h_⟩
   clear HS
   have z2 : wr.cell? ⟨w.heap.size, 2, none⟩ = some (.slice (some ad) l0_2.length c0_2) := (blk_cell HSE.out.bA 2).trans rfl
   go_wp2
   clear z2
   go_loopw [5, 28] (fun v5 v28 wr => ∃ (i g : Nat) (out : List Int) (vq : Value) (op : List Nat), v5 = .int .i64 g ∧ v28 = .int .i64 i ∧ i ≤ l0_2.length ∧ g ≤ i ∧ Aside0 (groupsL R cn l0_2 (l0_2.length - i) i (g : Int) out = Q) ∧ Aside0 (out.length = l0_2.length) ∧ Aside0 (GgS w wr #[.int .i64 (R : Int), .int .i64 (cn : Int), .slice (some ad) l0_2.length c0_2] go l0_2.length co out vq op)) (fun _ i _ => l0_2.length - (intOf i).toNat)
   case atStart => exact ⟨0, 0, _, _, _, rfl, rfl, Nat.zero_le _, Nat.zero_le _, HQ0, ⟨by rw [List.length_replicate]⟩, HSE⟩
   case round =>
    clear HQ0 HSE
    obtain ⟨i, g, out, vq, op, rfl, rfl, hi, hg, HQ, HOL, HS⟩ := hrel
    by_cases hlt : i < l0_2.length
    ·obtain ⟨d, hd⟩ : ∃ d, l0_2.length - i = d + 1 := ⟨l0_2.length - i - 1, by omega⟩
     have hd2 : d = l0_2.length - (i + 1) := by omega
     have hq := HQ.out
     rw [hd] at hq
     unfold groupsL at hq
     have HD := Aside0.mk hd2
     obtain ⟨ad2, e2, x0, x1⟩ := at_T71 HC.out (i : Int) (by omega) (by omega)
     cases e2
     rw [rdc, Int.toNat_natCast] at x0 x1
     replace x0 := (HS.out.be.cell (World.block_lt_of_cell? w _ x0)).trans x0
     replace x1 := (HS.out.be.cell (World.block_lt_of_cell? w _ x1)).trans x1
     rw [← rd_nat] at hq
     have hge := impl_isGeared_E (l0_2.getD i ⟨0, 0⟩)
     obtain ⟨x, hx⟩ : ∃ x_, x_ = l0_2.getD i ⟨0, 0⟩ := ⟨_, rfl⟩
     rw [← hx] at x0 x1 hq hge
     obtain ⟨kx, sx⟩ := x
     simp only at x0 x1 hge
     have HGE := Aside0.mk hge
     clear hd hd2 HQ hx hge
     by_cases hgr : gearB ⟨kx, sx⟩ = true
     ·rw [hgr] at HGE
      by_cases hov : rd out (i : Int) < 0
      ·rw [if_pos ⟨hgr, hov⟩] at hq
       have d1 : decide (0 ≤ rd out (i : Int)) = false := decide_eq_false (by omega)
       have HB := Aside0.mk (GgB.first (g := (g : Int)) HOL.out (by omega) hlt hov)
       rw [HRC.out] at hq
       have HQ2 := Aside0.mk hq
       clear hq
       go_wp2_with (first
        | (go_at_call 97; (with_reducible refine (impl_isGeared.calls _ _ true _ HGE.out).mono ?_); rintro e w4 ⟨rfl, hb⟩; have HS4 := Aside0.mk ((HS.out.below (below_alloc (Below.refl _ _) (.cells #[.int .i64 kx, .int .i64 sx] 71))).below hb); obtain ⟨y0, fy0⟩ := HS4.out.cell i hlt; clear hb HS x0 x1)
        | ((with_reducible refine gate_dst (N := 48) rfl ?_); have HS5 := Aside0.mk (HS4.out.put i (g : Int)); refine Kd.R_lit (Kd.int .i64) (w0 := w) w.heap.size 3 ?hg (N := 48) ?hd (xs := ([(i : Int)] : List Int)) (inner := [.int .i64 (i : Int)]) (ok := fun k_ => k_ ≠ go) (okp := fun _ => False) ?hr ?hp (fun _ hk => hk.elim) ?hf HS5.out.be HS5.out.be.size (by simp) ?_; (case hd => rfl); (case hg => rfl); (case hr => first | (go_simp; done) | (go_simp; rfl)); (case hp => exact (Reps.one (show Kd.M (Kd.int .i64) _ _ _ (i : Int) [.int .i64 (i : Int)] from rfl) (Reps.none _ _))); (case hf => exact (fun e_ => by have := Kd.R_lt HS5.out.ro go rfl; omega)); intro v8 w8 hR hb hg_ hnew; have HS8 : Aside0 (GgS w w8 #[.int .i64 (R : Int), .int .i64 (cn : Int), .slice (some ad) l0_2.length c0_2] go l0_2.length co (out.set i (g : Int)) v8 [i]) := ⟨HS5.out.lit (op1 := [i]) hR hg_ hnew⟩; clear hR hb hg_ hnew HS5 HS4 y0 fy0)
        | fail)
       go_loopg [8] l0_2.length (fun d2 v8 wr => ∃ (k : Nat) (out2 : List Int) (op2 qs : List Nat), Aside0 (GgB l0_2.length d2 k out2 op2) ∧ Aside0 (groupsL R cn l0_2 d (i + 1) ((g : Int) + 1) (bfsL R cn l0_2 (g : Int) d2 k out2 op2).1 = Q) ∧ Aside0 (qs = op2.drop k) ∧ Aside0 (GgS w wr #[.int .i64 (R : Int), .int .i64 (cn : Int), .slice (some ad) l0_2.length c0_2] go l0_2.length co out2 v8 qs))
       case atStart => exact ⟨0, _, _, _, HB, HQ2, ⟨rfl⟩, HS8⟩
       case round =>
        clear HB HQ2 HS8 HOL d1 hov
        obtain ⟨k, out2, op2, qs, HB, HQ2, HQS, HS⟩ := hrel
        obtain ⟨Aq, cq, eq_, _⟩ := Kd.Q_slice HS.out.q
        rw [natI_len] at eq_
        subst eq_
        have hop := HB.out.2.2.1
        have hkl := HB.out.2.2.2.1
        have hqsl : qs.length = op2.length - k := by rw [HQS.out, List.length_drop]
        by_cases hkk : k < op2.length
        ·obtain ⟨d3, hd3⟩ := HB.out.pos hkk
         subst hd3
         have hq := HQ2.out
         rw [bfsL, if_pos hkk] at hq
         have HB3 := Aside0.mk (HB.out.next hkk)
         have hal := HB.out.at hkk
         obtain ⟨a, ha⟩ : ∃ a_, a_ = op2.getD k 0 := ⟨_, rfl⟩
         rw [← ha] at hq hal
         have HLA := Aside0.mk (HLT.out a hal)
         have NA := Aside0.mk (NE.out a hal)
         have hn4 := nearL_len R cn a
         obtain ⟨near, hnear⟩ : ∃ n_, n_ = nearL R cn a := ⟨_, rfl⟩
         rw [← hnear] at hq HLA NA hn4
         have HQ3 : Aside0 (groupsL R cn l0_2 d (i + 1) ((g : Int) + 1) (bfsL R cn l0_2 (g : Int) d3 (k + 1) (visitL l0_2 (g : Int) (near.drop 0) out2 op2).1 (visitL l0_2 (g : Int) (near.drop 0) out2 op2).2).1 = Q) := ⟨hq⟩
         clear hnear HQ2 HB hal hq
         have hq0 : 0 < qs.length := by omega
         have hq1 : (1 : Int) ≤ (qs.length : Int) := by omega
         obtain ⟨rest, hrest⟩ : ∃ r_, r_ = op2.drop (k + 1) := ⟨_, rfl⟩
         have hqc : qs = a :: rest := by rw [HQS.out, hrest, ha, ← List.getElem_eq_getD (h := hkk)]; exact List.drop_eq_getElem_cons hkk
         have hrl : qs.length = rest.length + 1 := by rw [hqc, List.length_cons]
         have hnr : natI rest = (natI qs).drop (1 : Int).toNat := by rw [hqc]; rfl
         obtain ⟨aq, eq2, q0⟩ := Kd.at_int (Kd.Q_reads' HS.out.q).2.2 0 (by omega) (by rw [natI_len]; omega)
         subst eq2
         have ha0 : rd (natI qs) 0 = (a : Int) := by rw [hqc]; rfl
         rw [ha0, show (0 : Int).toNat = 0 from rfl, Addr.add_zero'] at q0
         obtain ⟨i0, hi0, _, hsz0, _⟩ := info_parts info3
         have hcut := cut_from (P := Try.prog) 39 3 .i64 Try.underlying39 hi0 1 hsz0 (some aq) qs.length cq 1 (by omega) hq1
         have hdr := Kd.Q_drop (k := (1 : Int).toNat) HS.out.q (by rw [natI_len]; simp; omega)
         obtain ⟨A41, hA41⟩ : ∃ A1, A1 = (if cq = (1 : Int).toNat then (some aq) else ((some aq) : Option Addr).map (·.add ((1 : Int).toNat * 1))) := ⟨_, rfl⟩
         obtain ⟨c41, hc41⟩ : ∃ c1, c1 = cq - (1 : Int).toNat := ⟨_, rfl⟩
         have hy41 : rest.length = qs.length - (1 : Int).toNat := by rw [hrl]; simp
         rw [← hy41, ← hA41, ← hc41] at hcut
         have hdr2 : Kd.Q (Kd.int .i64) 3 wr w.heap.size (fun k_ => k_ ≠ go) (.slice A41 rest.length c41) (natI rest) := by rw [hA41, hc41, hy41, hnr]; exact hdr
         have hov2 : (Value.slice A41 rest.length c41).ownBlock = (Value.slice (some aq) qs.length cq).ownBlock := by rw [hA41]; split <;> (cases ((some aq) : Option Addr) <;> rfl)
         have HS2 := Aside0.mk (HS.out.drop1 hdr2 hov2)
         have HRE := Aside0.mk hrest
         have p0 : wr.cell? ⟨w.heap.size, 0, none⟩ = some (.int .i64 (R : Int)) := (blk_cell HS.out.bA 0).trans rfl
         have p1 : wr.cell? ⟨w.heap.size, 1, none⟩ = some (.int .i64 (cn : Int)) := (blk_cell HS.out.bA 1).trans rfl
         have p2 : wr.cell? ⟨w.heap.size, 2, none⟩ = some (.slice (some ad) l0_2.length c0_2) := (blk_cell HS.out.bA 2).trans rfl
         have dq : decide ((qs.length : Int) > 0) = true := decide_eq_true (by omega)
         have dq2 : decide (0 < (qs.length : Int)) = true := decide_eq_true (by omega)
         have dq3 : decide ((1 : Int) ≤ (qs.length : Int)) = true := decide_eq_true hq1
         clear HS hdr hdr2 hov2 hA41 hc41 hy41 hi0 hsz0 hnr hqc hrl ha ha0 hrest HQS hqsl hop
         go_wp2_with (first
          | (go_at_call 98; (with_reducible refine (impl_besideOf.calls 5 _ _ _ _ l0_2 _ (natI near) _ (Kd.C_below HC.out HS2.out.be) HCC.out NA.out).mono ?_); rintro e w6 ⟨vn, rfl, hN, hb⟩; obtain ⟨An, cN, en⟩ := Kd.R_slice hN; rw [natI_len] at en; subst en; have HN : Aside0 (GgN w w6 go (.slice A41 rest.length c41) (.slice An near.length cN) near) := ⟨GgN.new HS2.out hN⟩; have HS := Aside0.mk (HS2.out.below hb); clear hb hN HS2 q0 p0 p1 p2)
          | fail)
         go_loopw [8, 61] (fun v8 v62 wr => ∃ (j : Nat) (out3 : List Int) (op3 qs3 : List Nat), v62 = .int .i64 j ∧ j ≤ near.length ∧ Aside0 (GgB l0_2.length d3 (k + 1) out3 op3) ∧ Aside0 (groupsL R cn l0_2 d (i + 1) ((g : Int) + 1) (bfsL R cn l0_2 (g : Int) d3 (k + 1) (visitL l0_2 (g : Int) (near.drop j) out3 op3).1 (visitL l0_2 (g : Int) (near.drop j) out3 op3).2).1 = Q)  ∧ Aside0 (qs3 = op3.drop (k + 1)) ∧ Aside0 (GgS w wr #[.int .i64 (R : Int), .int .i64 (cn : Int), .slice (some ad) l0_2.length c0_2] go l0_2.length co out3 v8 qs3) ∧ Aside0 (GgN w wr go v8 (.slice An near.length cN) near)) (fun _ j _ => near.length - (intOf j).toNat)
         case atStart => exact ⟨0, _, _, _, rfl, Nat.zero_le _, HB3, HQ3, HRE, HS, HN⟩
         case round =>
          clear HB3 HQ3 HS HN HRE hcut dq dq2 dq3 hq0 hq1
          obtain ⟨j, out3, op3, qs3, rfl, hj, HB3, HQ3, HRE, HS, HN⟩ := hrel
          obtain ⟨Aq3, cq3, eq3, _⟩ := Kd.Q_slice HS.out.q
          rw [natI_len] at eq3
          subst eq3
          have hop3 := HB3.out.2.2.1
          have hkl3 := HB3.out.2.2.2.1
          have hq3l : qs3.length ≤ op3.length := by rw [HRE.out, List.length_drop]; omega
          by_cases hjl : j < near.length
          ·have hq := HQ3.out
           rw [visitL_in hjl] at hq
           have hxl := getD_memN HLA.out hjl
           obtain ⟨an, ean, n0⟩ := Kd.at_int (Kd.R_reads' HN.out).2.2 (j : Int) (by omega) (by rw [natI_len]; omega)
           subst ean
           rw [rd_natI, Int.toNat_natCast] at n0
           obtain ⟨x, hx⟩ : ∃ x_, x_ = near.getD j 0 := ⟨_, rfl⟩
           rw [← hx] at hq hxl n0
           obtain ⟨ad2, e2, x0, x1⟩ := at_T71 HC.out (x : Int) (by omega) (by omega)
           cases e2
           rw [rdc, Int.toNat_natCast] at x0 x1
           replace x0 := (HS.out.be.cell (World.block_lt_of_cell? w _ x0)).trans x0
           replace x1 := (HS.out.be.cell (World.block_lt_of_cell? w _ x1)).trans x1
           have hge := impl_isGeared_E (l0_2.getD x ⟨0, 0⟩)
           obtain ⟨c, hc⟩ : ∃ x_, x_ = l0_2.getD x ⟨0, 0⟩ := ⟨_, rfl⟩
           rw [← hc] at x0 x1 hq hge
           obtain ⟨kx, sx⟩ := c
           simp only at x0 x1 hge
           have HGE := Aside0.mk hge
           have z2 : wr.cell? ⟨w.heap.size, 2, none⟩ = some (.slice (some ad) l0_2.length c0_2) := (blk_cell HS.out.bA 2).trans rfl
           clear hx hc hge HQ3
           by_cases hgr : gearB ⟨kx, sx⟩ = true
           ·rw [hgr] at HGE
            by_cases hov : rd out3 (x : Int) < 0
            ·rw [if_pos ⟨hgr, hov⟩] at hq
             have d1 : decide (rd out3 (x : Int) < 0) = true := decide_eq_true hov
             have HB4 := Aside0.mk (HB3.out.put (g := (g : Int)) (by omega) hxl hov)
             have HQ4 := Aside0.mk hq
             clear hq HB3
             go_wp2_with (first
              | (go_at_call 97; (with_reducible refine (impl_isGeared.calls _ _ true _ HGE.out).mono ?_); rintro e w4 ⟨rfl, hb⟩; have HS4 := Aside0.mk (HS.out.below hb); have HN4 := Aside0.mk (HN.out.below hb); obtain ⟨y0, fy0⟩ := HS4.out.cell x hxl; clear hb HS HN x0 x1 z2 n0)
              | ((with_reducible refine gate_store (t := 3) (p := 81) rfl ?_); refine store_event (t := 3) (p := 81) (v := ?vo_w5) (w1 := (w4.setCell ⟨go, x, none⟩ (.int .i64 (g : Int)))) ?hg ?ho ?hn ?hr ?_; (case ho => rfl); (case hg => rfl); (case hn => rfl); (case hr => first | (go_simp; done) | (go_simp; rfl)); intro w5 hw; have HS5 : Aside0 (GgS w w5 #[.int .i64 (R : Int), .int .i64 (cn : Int), .slice (some ad) l0_2.length c0_2] go l0_2.length co (out3.set x (g : Int)) (.slice Aq3 qs3.length cq3) qs3) := ⟨by rw [hw]; exact HS4.out.put x (g : Int)⟩; have HN5 : Aside0 (GgN w w5 go (.slice Aq3 qs3.length cq3) (.slice (some an) near.length cN) near) := ⟨by rw [hw]; exact HN4.out.put x (.int .i64 (g : Int))⟩; clear hw HS4 HN4 y0 fy0)
              | ((with_reducible refine gate_builtin (b := .append) (xs := #[.tmp 82, .tmp 84]) rfl ?_); at_builtin; refine Kd.Q_append (Kd.int .i64) (w0 := w) w.heap.size rfl (.tmp 82) (.tmp 84) 39 3 (.int .i64 0) 8 rfl Try.underlying39 info3 rfl (by decide) (by omega) (.slice Aq3 qs3.length cq3) (natI qs3) (x : Int) [.int .i64 (x : Int)] (fun k_ => k_ ≠ go) (fun _ => False) rfl rfl ?aP (fun _ hk => hk.elim) ?aF ?aO ?aB ?aS ?aL ?_; (case aP => exact rfl); (case aF => exact (fun k_ hk e_ => by have := Kd.R_lt HS5.out.ro go rfl; omega)); (case aO => exact HS5.out.q); (case aB => exact HS5.out.be); (case aS => exact HS5.out.be.size); (case aL => rw [natI_len]; omega); intro v9 w9 hq hb hg_ hat; have HS9 := Aside0.mk (HS5.out.app hq hb hg_ hat); have HN9 := Aside0.mk (HN5.out.app hg_ hat); clear hq hb hg_ hat HS5 HN5)
              | fail)
             have HR4 : Aside0 (qs3 ++ [x] = (op3 ++ [x]).drop (k + 1)) := ⟨by rw [HRE.out, List.drop_append_of_le_length hkl3]⟩
             go_roundw
             case rel => first | exact ⟨j + 1, _, _, _, by go_num, by omega, HB4, HQ4, HR4, HS9, HN9⟩ | ((repeat apply Exists.intro); exact ⟨⟨j + 1, _, _, _, by go_num, by omega, HB4, HQ4, HR4, HS9, HN9⟩, rfl⟩)
             case measure => simp [intOf]; omega
            ·rw [if_neg (fun h_ => hov h_.2)] at hq
             have d1 : decide (rd out3 (x : Int) < 0) = false := decide_eq_false hov
             have HQ4 := Aside0.mk hq
             clear hq
             go_wp2_with (first | (go_at_call 97; (with_reducible refine (impl_isGeared.calls _ _ true _ HGE.out).mono ?_); rintro e w4 ⟨rfl, hb⟩; have HS4 := Aside0.mk (HS.out.below hb); have HN4 := Aside0.mk (HN.out.below hb); obtain ⟨y0, fy0⟩ := HS4.out.cell x hxl; clear hb HS HN x0 x1 z2 n0) | fail)
             go_roundw
             case rel => first | exact ⟨j + 1, _, _, _, by go_num, by omega, HB3, HQ4, HRE, HS4, HN4⟩ | ((repeat apply Exists.intro); exact ⟨⟨j + 1, _, _, _, by go_num, by omega, HB3, HQ4, HRE, HS4, HN4⟩, rfl⟩)
             case measure => simp [intOf]; omega
           ·have hgf : gearB ⟨kx, sx⟩ = false := Bool.eq_false_iff.mpr hgr
            rw [hgf] at HGE
            rw [if_neg (fun h_ => hgr h_.1)] at hq
            have HQ4 := Aside0.mk hq
            clear hq
            go_wp2_with (first | (go_at_call 97; (with_reducible refine (impl_isGeared.calls _ _ false _ HGE.out).mono ?_); rintro e w4 ⟨rfl, hb⟩; have HS4 := Aside0.mk (HS.out.below hb); have HN4 := Aside0.mk (HN.out.below hb); obtain ⟨y0, fy0⟩ := HS4.out.cell x hxl; clear hb HS HN x0 x1 z2 n0) | fail)
            go_roundw
            case rel => first | exact ⟨j + 1, _, _, _, by go_num, by omega, HB3, HQ4, HRE, HS4, HN4⟩ | ((repeat apply Exists.intro); exact ⟨⟨j + 1, _, _, _, by go_num, by omega, HB3, HQ4, HRE, HS4, HN4⟩, rfl⟩)
            case measure => simp [intOf]; omega
          ·obtain rfl : j = near.length := by omega
           have hq := HQ3.out
           rw [List.drop_length, visitL] at hq
           have HQ4 := Aside0.mk hq
           clear hq HQ3
           go_wp2
           go_roundg d3
           case measure => omega
           case rel => exact ⟨k + 1, out3, op3, qs3, HB3, HQ4, HRE, HS⟩
        ·have hq := HQ2.out
         rw [bfsL_end _ _ _ _ _ _ _ _ hkk] at hq
         have HQ3 := Aside0.mk hq
         rw [HD.out, show ((g : Int) + 1) = ((g + 1 : Nat) : Int) from rfl] at HQ3
         have HO2 := Aside0.mk HB.out.1
         clear hq HQ2
         have hq0 : qs.length = 0 := by omega
         have dq : decide ((qs.length : Int) > 0) = false := decide_eq_false (by omega)
         have dq2 : decide (0 < (qs.length : Int)) = false := decide_eq_false (by omega)
         go_wp2
         go_roundw
         case rel => first | exact ⟨i + 1, g + 1, out2, _, _, by go_num, by go_num, by omega, by omega, HQ3, HO2, HS⟩ | ((repeat apply Exists.intro); exact ⟨⟨i + 1, g + 1, out2, _, _, by go_num, by go_num, by omega, by omega, HQ3, HO2, HS⟩, rfl⟩)
         case measure => simp [intOf]; omega
      ·rw [if_neg (fun h_ => hov h_.2)] at hq
       have d1 : decide (0 ≤ rd out (i : Int)) = true := decide_eq_true (by omega)
       have HQ2 := Aside0.mk hq
       rw [HD.out] at HQ2
       clear hq
       go_wp2_with (first | (go_at_call 97; (with_reducible refine (impl_isGeared.calls _ _ true _ HGE.out).mono ?_); rintro e w4 ⟨rfl, hb⟩; have HS4 := Aside0.mk ((HS.out.below (below_alloc (Below.refl _ _) (.cells #[.int .i64 kx, .int .i64 sx] 71))).below hb); obtain ⟨y0, fy0⟩ := HS4.out.cell i hlt; clear hb HS x0 x1) | fail)
       go_roundw
       case rel => first | exact ⟨i + 1, g, out, _, _, rfl, by go_num, by omega, by omega, HQ2, HOL, HS4⟩ | ((repeat apply Exists.intro); exact ⟨⟨i + 1, g, out, _, _, rfl, by go_num, by omega, by omega, HQ2, HOL, HS4⟩, rfl⟩)
       case measure => simp [intOf]; omega
     ·have hgf : gearB ⟨kx, sx⟩ = false := Bool.eq_false_iff.mpr hgr
      rw [hgf] at HGE
      rw [if_neg (fun h_ => hgr h_.1)] at hq
      have HQ2 := Aside0.mk hq
      rw [HD.out] at HQ2
      clear hq
      go_wp2_with (first | (go_at_call 97; (with_reducible refine (impl_isGeared.calls _ _ false _ HGE.out).mono ?_); rintro e w4 ⟨rfl, hb⟩; have HS4 := Aside0.mk ((HS.out.below (below_alloc (Below.refl _ _) (.cells #[.int .i64 kx, .int .i64 sx] 71))).below hb); obtain ⟨y0, fy0⟩ := HS4.out.cell i hlt; clear hb HS x0 x1) | fail)
      go_roundw
      case rel => first | exact ⟨i + 1, g, out, _, _, rfl, by go_num, by omega, by omega, HQ2, HOL, HS4⟩ | ((repeat apply Exists.intro); exact ⟨⟨i + 1, g, out, _, _, rfl, by go_num, by omega, by omega, HQ2, HOL, HS4⟩, rfl⟩)
      case measure => simp [intOf]; omega
    ·obtain rfl : i = l0_2.length := by omega
     have hq := HQ.out
     rw [Nat.sub_self, groupsL] at hq
     subst hq
     clear HQ
     go_wp2
     go_ret
     exact ⟨_, rfl, Kd.R_mono HS.out.ro (fun _ _ => trivial), HS.out.be⟩
end Go.Proofs.Ytcilbmbgdcepgaa.P
