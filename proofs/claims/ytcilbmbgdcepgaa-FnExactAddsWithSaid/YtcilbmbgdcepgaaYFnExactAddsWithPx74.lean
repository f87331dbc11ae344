/- The walk of spec.flPass (printed by gen_go.py). -/
import Derived.Test.YtcilbmbgdcepgaaYFnExactAddsWithVPass
import Derived.Test.YtcilbmbgdcepgaaOwnW
import Derived.Test.YtcilbmbgdcepgaaYFnExactAddsWithPx73
namespace Go.Proofs.Ytcilbmbgdcepgaa.P
open Go.RowKit YtcilbmbgdcepgaaW.PrintWords YtcilbmbgdcepgaaW.PrintLast YtcilbmbgdcepgaaW.PrintMore Own A
set_option linter.unusedVariables false
set_option linter.unusedSimpArgs false
/-! ### spec_flPass: function 103 -/
def PassOk_spec_flPass (l : List S71) (gs : List Int) (i : Int) : Prop := (l.length ≤ 1000 ∧ ∀ x ∈ l, CellOk x.f0 x.f1) ∧ gs.length = l.length ∧ 0 ≤ i ∧ i < (l.length : Int)
instance (l : List S71) (gs : List Int) (i : Int) : Decidable (PassOk_spec_flPass l gs i) := by unfold PassOk_spec_flPass CellOk; infer_instance
def spec_flPass.f (k : Nat) (a0_0 : Int) (a0_1 : Int) (l0_2 : List (S71)) (l1 : List Int) (a2 : Int) : Option ((List (S71))) := if PassOk_spec_flPass l0_2 l1 a2 then some (passC l1 l0_2 a2.toNat) else none
theorem spec_flPass.mono : ∀ a0 a1 a2 a3 a4 k, LeO (spec_flPass.f k a0 a1 a2 a3 a4) (spec_flPass.f (k + 1) a0 a1 a2 a3 a4) := fun _ _ _ _ _ _ _ h => h
set_option maxHeartbeats 8000000 in
set_option maxRecDepth 100000 in
theorem spec_flPass.calls (k : Nat) (a0_0 : Int) (a0_1 : Int) (P0_2_ : Nat → Prop) (u9000_ : Value) (l0_2 : List (S71)) (A1 : Option Addr) (c1 : Nat) (l1 : List Int) (a2 : Int) (r : List (S71)) (w0 w : World) (hB : Below w0.heap.size w0 w) (ho0_2 : Kd.R k71 71 w w0.heap.size P0_2_ u9000_ l0_2) (hr1 : ∀ W_, Kept w W_ (fun k_ => P0_2_ k_) → Kd.C (Kd.int .i64) W_ A1 l1.length l1) (hc1 : l1.length ≤ c1) (h : spec_flPass.f k a0_0 a0_1 l0_2 l1 a2 = some r) :
  Calls Try.prog 103 #[.agg #[.int .i64 a0_0, .int .i64 a0_1, u9000_], .slice A1 l1.length c1, .int .i64 a2] w fun e w' => e = .returned (.tuple #[]) ∧ Kd.R k71 71 w' w0.heap.size (fun k_ => (P0_2_ k_ ∨ w.heap.size ≤ k_)) u9000_ r ∧ Below w0.heap.size w0 w' ∧ Kept w w' (fun k_ => P0_2_ k_) := by
 have hu24 := Try.underlying24
 have hu71 := Try.underlying71
 unfold spec_flPass.f at h
 by_cases hk : PassOk_spec_flPass l0_2 l1 a2
 case neg => rw [if_neg hk] at h; simp at h
 rw [if_pos hk] at h
 simp only [Option.some.injEq] at h
 subst h
 obtain ⟨⟨hn, hok⟩, hgl, h0, h1⟩ := hk
 obtain ⟨a, rfl⟩ : ∃ m : Nat, a2 = (m : Int) := ⟨a2.toNat, by omega⟩
 have ha : a < l0_2.length := by omega
 obtain ⟨g, cap, eu, _, hgs, _⟩ := Kd.R_form ho0_2 (by omega)
 subst eu
 obtain ⟨n, hnn⟩ : ∃ n, n = l0_2.length := ⟨_, rfl⟩
 rw [← hnn] at ho0_2 hn ha hgl ⊢
 have HGL := Aside0.mk hgl
 have HG := Aside0.mk hr1
 have HOK := Aside0.mk hok
 have HS0 : Aside0 (PaS w0 w (w.alloc (.cells #[.int .i64 a0_0, .int .i64 a0_1, .slice (some ⟨g, 0, none⟩) n cap] 24)) P0_2_ g n cap #[.int .i64 a0_0, .int .i64 a0_1, .slice (some ⟨g, 0, none⟩) n cap] l0_2) := ⟨⟨blk_new w _, Kd.R_below ho0_2 (below_alloc (Below.refl _ _) _), below_alloc hB _, (Kept.refl w _).alloc _, hgs, hnn.symm⟩⟩
 clear ho0_2 hr1 hok hB hgl h0 h1 hgs hnn
 rw [Int.toNat_natCast]
 obtain ⟨x, hx⟩ : ∃ x_, x_ = l0_2.getD a ⟨0, 0⟩ := ⟨_, rfl⟩
 have HX : Aside0 (CellOk x.f0 x.f1) := ⟨by rw [hx]; exact getD_ok HOK.out a⟩
 obtain ⟨Q, hQ⟩ : ∃ Q, passC l1 l0_2 a = Q := ⟨_, rfl⟩
 rw [hQ]
 unfold passC at hQ
 simp only at hQ
 rw [← hx] at hQ
 obtain ⟨c0, c1_, fz0, fz1⟩ := cellGet HS0.out.ro a ha
 rw [← hx] at c0 c1_
 have z2 : (w.alloc (.cells #[.int .i64 a0_0, .int .i64 a0_1, .slice (some ⟨g, 0, none⟩) n cap] 24)).cell? ⟨w.heap.size, 2, none⟩ = some (.slice (some ⟨g, 0, none⟩) n cap) := (blk_cell HS0.out.bA 2).trans rfl
 obtain ⟨kx, sx⟩ := x
 replace HX : Aside0 (CellOk kx sx) := HX
 simp only at c0 c1_ hQ
 have HQ := Aside0.mk hQ
 clear hx hQ fz0 fz1
 have hw1 : (w.alloc (.cells #[.int .i64 a0_0, .int .i64 a0_1, .slice (some ⟨g, 0, none⟩) n cap] 24)).heap.size = w.heap.size + 1 := Array.size_push _
 have HS1 : Aside0 (PaS w0 w ((w.alloc (.cells #[.int .i64 a0_0, .int .i64 a0_1, .slice (some ⟨g, 0, none⟩) n cap] 24)).alloc (.cells #[.int .i64 kx, .int .i64 sx] 71)) P0_2_ g n cap #[.int .i64 a0_0, .int .i64 a0_1, .slice (some ⟨g, 0, none⟩) n cap] l0_2) := ⟨HS0.out.below (below_alloc (Below.refl _ _) _)⟩
 have BX : Aside0 (((w.alloc (.cells #[.int .i64 a0_0, .int .i64 a0_1, .slice (some ⟨g, 0, none⟩) n cap] 24)).alloc (.cells #[.int .i64 kx, .int .i64 sx] 71)).heap[w.heap.size + 1]? = some (.cells #[.int .i64 kx, .int .i64 sx] 71 (0, 0))) := ⟨by rw [← hw1]; exact blk_new _ _⟩
 clear HS0 hw1
 go_enter Try.func103, Try.ntmps103
 by_cases h3 : kx = 3
 ·subst h3
  have hq := HQ.out
  rw [if_pos rfl] at hq
  subst hq
  clear HQ HOK
  go_wp2
  have HS := HS1
  clear HS1 c0 c1_ z2
  generalize ((w.alloc (.cells #[.int .i64 a0_0, .int .i64 a0_1, .slice (some ⟨g, 0, none⟩) n cap] 24)).alloc (.cells #[.int .i64 3, .int .i64 sx] 71)) = w2 at HS BX ⊢
  have HT : Aside0 (spec_paTurn.f 3 sx = some (3, 1 - sx)) := ⟨by unfold spec_paTurn.f; rw [← i64_w, wrap_turn HX.out]⟩
  refine start_ (n := 7) (S := fun w' => w'.cell? ⟨w.heap.size, 2, none⟩ = some (.slice (some ⟨g, 0, none⟩) n cap) ∧ w'.cell? ⟨w.heap.size + 1, 0, none⟩ = some (.int .i64 3) ∧ w'.cell? ⟨w.heap.size + 1, 1, none⟩ = some (.int .i64 sx)) (ds := [6]) #[false,false,false,false,false,false,false] (by kernel_rfl) rfl rfl ⟨(blk_cell HS.out.bA 2).trans rfl, (blk_cell BX.out 0).trans rfl, (blk_cell BX.out 1).trans rfl⟩ (fun hHeld => ?_)
  refine Own.anew_ (wN := w2) Own.bel hHeld (fun wy hzb hHeld => ?_)
  replace HS := Aside0.mk (HS.out.below hzb)
  replace BX := Aside0.mk (blk_below BX.out hzb)
  clear hzb
  refine Own.pu_ (i := 0) (N := some 18) #[true,false,false,false,false,false,false] ?_
  refine Own.tk_ (i := 1) (N := some 19) #[true,true,false,false,false,false,false] hHeld ?_
  refine Own.pu_ (i := 2) (N := some 20) #[true,true,true,false,false,false,false] ?_
  refine Own.tk_ (i := 3) (N := some 21) #[true,true,true,true,false,false,false] hHeld ?_
  refine one_ (i := 4) (N := some 22) #[true,true,true,true,true,false,false] rfl rfl (by kernel_rfl) (by decide) (fun K hK => ?_)
  refine goes_ Try.func106 (by kernel_rfl) rfl #[.agg #[.int .i64 3, .int .i64 sx]] (by rfl) rfl rfl Own.mapd ?_
  with_reducible refine (spec_paTurn.calls _ _ _ _ _ HT.out).mono ?_
  rintro e w9 ⟨rfl, hb⟩
  refine ⟨_, rfl, ?_⟩
  replace HS := Aside0.mk (HS.out.below hb)
  replace BX := Aside0.mk (blk_below BX.out hb)
  clear hb
  refine hK.out _ _ ⟨(blk_cell HS.out.bA 2).trans rfl, (blk_cell BX.out 0).trans rfl, (blk_cell BX.out 1).trans rfl⟩ (fun hHeld => ?_)
  clear hK K
  refine Own.nm_ (some 22) ?_
  refine Own.pu_ (i := 5) (N := some 23) #[true,true,true,true,true,true,false] ?_
  obtain ⟨c0, c1_, fz0, fz1⟩ := cellGet HS.out.ro a ha
  have HSX := HS.out.put a ha ⟨3, 1 - sx⟩
  have HS2 := Aside0.mk HSX
  clear HSX
  refine last_ (i := 6) (N := none) #[true,true,true,true,true,true,true] rfl rfl (by kernel_rfl) (by decide) (fun K hK => ?_)
  refine skip_ (w1 := ((w9.setCell ⟨g, a * 2, none⟩ (.int .i64 3)).setCell ⟨g, a * 2 + 1, none⟩ (.int .i64 (1 - sx)))) (by rfl) rfl ?_ ?_
  ·first | (go_simp; done) | (go_simp; rfl)
  refine hK.out _ _ ?_
  clear hK K
  refine done_ (by kernel_rfl) ?_
  clear hHeld c0 c1_ fz0 fz1 HS BX HT
  generalize (w9.setCell ⟨g, a * 2, none⟩ (.int .i64 3)).setCell ⟨g, a * 2 + 1, none⟩ (.int .i64 (1 - sx)) = wn at HS2 ⊢
  (try go_wp2)
  go_end0
  exact ⟨rfl, HS2.out.out, HS2.out.be, HS2.out.kp⟩
 have b3 : (kx == 3) = false := beq_false_of_ne h3
 by_cases h6 : kx = 6
 ·subst h6
  have hq := HQ.out
  rw [if_neg h3, if_pos rfl] at hq
  have HQ0 : Aside0 (l0_2.take 0 ++ turnAll l1 (rd l1 (a : Int)) 0 (l0_2.drop 0) = Q) := ⟨by rw [List.take_zero, List.nil_append, List.drop_zero]; exact hq⟩
  clear hq HQ BX HX
  go_wp2
  clear h3 b3 c0 c1_ z2
  generalize ((w.alloc (.cells #[.int .i64 a0_0, .int .i64 a0_1, .slice (some ⟨g, 0, none⟩) n cap] 24)).alloc (.cells #[.int .i64 6, .int .i64 sx] 71)) = w2 at HS1 ⊢
  go_loopw [29] (fun v29 wr => ∃ (i : Nat) (cur : List S71), v29 = .int .i64 i ∧ i ≤ n ∧ Aside0 (cur.take i ++ turnAll l1 (rd l1 (a : Int)) i (cur.drop i) = Q) ∧ Aside0 (∀ x ∈ cur, CellOk x.f0 x.f1) ∧ Aside0 (PaS w0 w wr P0_2_ g n cap #[.int .i64 a0_0, .int .i64 a0_1, .slice (some ⟨g, 0, none⟩) n cap] cur)) (fun i _ => n - (intOf i).toNat)
  case atStart => exact ⟨0, l0_2, rfl, Nat.zero_le _, HQ0, HOK, HS1⟩
  case round =>
   clear HQ0 HOK HS1
   obtain ⟨i, cur, rfl, hi, HQ, HOK, HS⟩ := hrel
   by_cases hlt : i < n
   ·have hle := HS.out.le
    obtain ⟨hst, hsf⟩ := turnAll_step (i := i) (by omega) HQ.out
    obtain ⟨x, hx⟩ : ∃ x_, x_ = cur.getD i ⟨0, 0⟩ := ⟨_, rfl⟩
    obtain ⟨c0, c1_, fz0, fz1⟩ := cellGet HS.out.ro i hlt
    have HX : Aside0 (CellOk x.f0 x.f1) := ⟨by rw [hx]; exact getD_ok HOK.out i⟩
    rw [← hx] at c0 c1_ hst hsf
    obtain ⟨kx, sx⟩ := x
    replace HX : Aside0 (CellOk kx sx) := HX
    simp only at c0 c1_ hst hsf
    have HST := Aside0.mk hst
    have HSF := Aside0.mk hsf
    have hC := HG.out wr HS.out.kp
    obtain ⟨ad, e1, g1⟩ := Kd.at_int hC (i : Int) (by omega) (by rw [HGL.out]; omega)
    obtain ⟨ad2, e2, g2⟩ := Kd.at_int hC (a : Int) (by omega) (by rw [HGL.out]; omega)
    subst e1
    cases e2
    rw [Int.toNat_natCast] at g1 g2
    have d0 : i < l1.length := by rw [HGL.out]; exact hlt
    have d1 : a < l1.length := by rw [HGL.out]; exact ha
    clear hle hst hsf hx hC HQ
    go_wp2
    have BX := Aside0.mk (blk_new wr (.cells #[.int .i64 kx, .int .i64 sx] 71))
    replace HS := Aside0.mk (HS.out.below (below_alloc (Below.refl _ _) (.cells #[.int .i64 kx, .int .i64 sx] 71)))
    skip
    replace g1 := (World.cell?_alloc_lt _ (.cells #[.int .i64 kx, .int .i64 sx] 71) _ (World.block_lt_of_cell? _ _ g1)).trans g1
    replace g2 := (World.cell?_alloc_lt _ (.cells #[.int .i64 kx, .int .i64 sx] 71) _ (World.block_lt_of_cell? _ _ g2)).trans g2
    obtain ⟨g8, hg8⟩ : ∃ g_, g_ = wr.heap.size := ⟨_, rfl⟩
    rw [← hg8] at BX ⊢
    generalize wr.alloc (.cells #[.int .i64 kx, .int .i64 sx] 71) = w8 at HS BX g1 g2 ⊢
    clear c0 c1_ fz0 fz1 hg8
    by_cases h6 : kx = 6
    ·subst h6
     refine start_ (n := 14) (S := fun w' => w'.cell? ⟨g8, 0, none⟩ = some (.int .i64 6) ∧ w'.cell? (ad.add i) = some (.int .i64 (rd l1 (i : Int))) ∧ w'.cell? (ad.add a) = some (.int .i64 (rd l1 (a : Int)))) (ds := []) #[false,false,false,false,false,false,false,false,false,false,false,false,false,false] (by kernel_rfl) rfl rfl ⟨(blk_cell BX.out 0).trans rfl, g1, g2⟩ (fun hHeld => ?_)
     refine Own.anew_ (wN := w8) Own.bel hHeld (fun wz hzb hHeld => ?_)
     replace HS := Aside0.mk (HS.out.below hzb)
     replace BX := Aside0.mk (blk_below BX.out hzb)
     clear hzb g1 g2
     refine Own.pu_ (i := 0) (N := some 34) #[true,false,false,false,false,false,false,false,false,false,false,false,false,false] ?_
     refine Own.tk_ (i := 1) (N := some 35) #[true,true,false,false,false,false,false,false,false,false,false,false,false,false] hHeld ?_
     refine Own.pu_ (i := 2) (N := some 36) #[true,true,true,false,false,false,false,false,false,false,false,false,false,false] ?_
     refine Own.pu_ (i := 3) (N := some 37) #[true,true,true,true,false,false,false,false,false,false,false,false,false,false] ?_
     refine Own.pu_ (i := 4) (N := some 38) #[true,true,true,true,true,false,false,false,false,false,false,false,false,false] ?_
     refine Own.pu_ (i := 5) (N := some 39) #[true,true,true,true,true,true,false,false,false,false,false,false,false,false] ?_
     refine Own.pu_ (i := 6) (N := some 40) #[true,true,true,true,true,true,true,false,false,false,false,false,false,false] ?_
     refine Own.tk_ (i := 7) (N := some 41) #[true,true,true,true,true,true,true,true,false,false,false,false,false,false] hHeld ?_
     refine Own.pu_ (i := 8) (N := some 42) #[true,true,true,true,true,true,true,true,true,false,false,false,false,false] ?_
     refine Own.pu_ (i := 9) (N := some 43) #[true,true,true,true,true,true,true,true,true,true,false,false,false,false] ?_
     refine Own.pu_ (i := 10) (N := some 44) #[true,true,true,true,true,true,true,true,true,true,true,false,false,false] ?_
     refine Own.tk_ (i := 11) (N := some 45) #[true,true,true,true,true,true,true,true,true,true,true,true,false,false] hHeld ?_
     refine Own.pu_ (i := 12) (N := some 46) #[true,true,true,true,true,true,true,true,true,true,true,true,true,false] ?_
     refine Own.pu_ (i := 13) (N := some 47) #[true,true,true,true,true,true,true,true,true,true,true,true,true,true] ?_
     refine done_ (by kernel_rfl) ?_
     clear hHeld
     by_cases hg6 : rd l1 (i : Int) = rd l1 (a : Int)
     ·have bg : (rd l1 (i : Int) == rd l1 (a : Int)) = true := beq_iff_eq.2 hg6
      have HQ2 := Aside0.mk (HST.out ⟨rfl, hg6⟩)
      have HO2 : Aside0 (∀ y ∈ cur.set i ⟨6, 1 - sx⟩, CellOk y.f0 y.f1) := ⟨set_ok HOK.out i (cellOk_turn (x := ⟨6, sx⟩) HX.out (.inr rfl))⟩
      clear HST HSF
      go_wp2
      have HT : Aside0 (spec_paTurn.f 6 sx = some (6, 1 - sx)) := ⟨by unfold spec_paTurn.f; rw [← i64_w, wrap_turn HX.out]⟩
      refine start_ (n := 7) (S := fun w' => w'.cell? ⟨w.heap.size, 2, none⟩ = some (.slice (some ⟨g, 0, none⟩) n cap) ∧ w'.cell? ⟨g8, 0, none⟩ = some (.int .i64 6) ∧ w'.cell? ⟨g8, 1, none⟩ = some (.int .i64 sx)) (ds := [6]) #[false,false,false,false,false,false,false] (by kernel_rfl) rfl rfl ⟨(blk_cell HS.out.bA 2).trans rfl, (blk_cell BX.out 0).trans rfl, (blk_cell BX.out 1).trans rfl⟩ (fun hHeld => ?_)
      refine Own.anew_ (wN := wz) Own.bel hHeld (fun wy hzb hHeld => ?_)
      replace HS := Aside0.mk (HS.out.below hzb)
      replace BX := Aside0.mk (blk_below BX.out hzb)
      clear hzb
      refine Own.pu_ (i := 0) (N := some 48) #[true,false,false,false,false,false,false] ?_
      refine Own.tk_ (i := 1) (N := some 49) #[true,true,false,false,false,false,false] hHeld ?_
      refine Own.pu_ (i := 2) (N := some 50) #[true,true,true,false,false,false,false] ?_
      refine Own.tk_ (i := 3) (N := some 51) #[true,true,true,true,false,false,false] hHeld ?_
      refine one_ (i := 4) (N := some 52) #[true,true,true,true,true,false,false] rfl rfl (by kernel_rfl) (by decide) (fun K hK => ?_)
      refine goes_ Try.func106 (by kernel_rfl) rfl #[.agg #[.int .i64 6, .int .i64 sx]] (by rfl) rfl rfl Own.mapd ?_
      with_reducible refine (spec_paTurn.calls _ _ _ _ _ HT.out).mono ?_
      rintro e w9 ⟨rfl, hb⟩
      refine ⟨_, rfl, ?_⟩
      replace HS := Aside0.mk (HS.out.below hb)
      replace BX := Aside0.mk (blk_below BX.out hb)
      clear hb
      refine hK.out _ _ ⟨(blk_cell HS.out.bA 2).trans rfl, (blk_cell BX.out 0).trans rfl, (blk_cell BX.out 1).trans rfl⟩ (fun hHeld => ?_)
      clear hK K
      refine Own.nm_ (some 52) ?_
      refine Own.pu_ (i := 5) (N := some 53) #[true,true,true,true,true,true,false] ?_
      obtain ⟨c0, c1_, fz0, fz1⟩ := cellGet HS.out.ro i hlt
      have HSX := HS.out.put i hlt ⟨6, 1 - sx⟩
      have HS2 := Aside0.mk HSX
      clear HSX
      refine last_ (i := 6) (N := none) #[true,true,true,true,true,true,true] rfl rfl (by kernel_rfl) (by decide) (fun K hK => ?_)
      refine skip_ (w1 := ((w9.setCell ⟨g, i * 2, none⟩ (.int .i64 6)).setCell ⟨g, i * 2 + 1, none⟩ (.int .i64 (1 - sx)))) (by rfl) rfl ?_ ?_
      ·first | (go_simp; done) | (go_simp; rfl)
      refine hK.out _ _ ?_
      clear hK K
      refine done_ (by kernel_rfl) ?_
      clear hHeld c0 c1_ fz0 fz1 HS BX HT
      generalize (w9.setCell ⟨g, i * 2, none⟩ (.int .i64 6)).setCell ⟨g, i * 2 + 1, none⟩ (.int .i64 (1 - sx)) = wn at HS2 ⊢
      go_wp2
      go_roundw
      case rel => first | exact ⟨i + 1, _, by go_num, by omega, HQ2, HO2, HS2⟩ | ((repeat apply Exists.intro); exact ⟨⟨i + 1, _, by go_num, by omega, HQ2, HO2, HS2⟩, rfl⟩)
      case measure => simp [intOf]; omega
     ·have bg : (rd l1 (i : Int) == rd l1 (a : Int)) = false := beq_false_of_ne hg6
      have HQ2 := Aside0.mk (HSF.out (fun h_ => hg6 h_.2))
      clear HST HSF
      go_wp2
      go_roundw
      case rel => first | exact ⟨i + 1, _, by go_num, by omega, HQ2, HOK, HS⟩ | ((repeat apply Exists.intro); exact ⟨⟨i + 1, _, by go_num, by omega, HQ2, HOK, HS⟩, rfl⟩)
      case measure => simp [intOf]; omega
    ·have b6 : (kx == 6) = false := beq_false_of_ne h6
     refine start_ (n := 14) (S := fun w' => w'.cell? ⟨g8, 0, none⟩ = some (.int .i64 kx) ∧ w'.cell? (ad.add i) = some (.int .i64 (rd l1 (i : Int))) ∧ w'.cell? (ad.add a) = some (.int .i64 (rd l1 (a : Int)))) (ds := []) #[false,false,false,false,false,false,false,false,false,false,false,false,false,false] (by kernel_rfl) rfl rfl ⟨(blk_cell BX.out 0).trans rfl, g1, g2⟩ (fun hHeld => ?_)
     refine Own.anew_ (wN := w8) Own.bel hHeld (fun wz hzb hHeld => ?_)
     replace HS := Aside0.mk (HS.out.below hzb)
     replace BX := Aside0.mk (blk_below BX.out hzb)
     clear hzb g1 g2
     refine Own.pu_ (i := 0) (N := some 34) #[true,false,false,false,false,false,false,false,false,false,false,false,false,false] ?_
     refine Own.tk_ (i := 1) (N := some 35) #[true,true,false,false,false,false,false,false,false,false,false,false,false,false] hHeld ?_
     refine Own.pu_ (i := 2) (N := some 36) #[true,true,true,false,false,false,false,false,false,false,false,false,false,false] ?_
     refine Own.pu_ (i := 3) (N := some 37) #[true,true,true,true,false,false,false,false,false,false,false,false,false,false] ?_
     refine pure_ (i := 4) (N := some 38) (v := undef) (a' := ?_) #[true,true,true,true,true,false,false,false,false,false,false,false,false,false] rfl rfl (by kernel_rfl) (fun _ _ _ h => h) (Or.inr ⟨by rfl, rfl⟩) ?_ ?_
     rotate_left
     ·simp only [Own.putL]
      rfl
     refine pure_ (i := 5) (N := some 39) (v := undef) (a' := ?_) #[true,true,true,true,true,true,false,false,false,false,false,false,false,false] rfl rfl (by kernel_rfl) (fun _ _ _ h => h) (Or.inr ⟨by rfl, rfl⟩) ?_ ?_
     rotate_left
     ·simp only [Own.putL]
      rfl
     refine pure_ (i := 6) (N := some 40) (v := undef) (a' := ?_) #[true,true,true,true,true,true,true,false,false,false,false,false,false,false] rfl rfl (by kernel_rfl) (fun _ _ _ h => h) (Or.inr ⟨by rfl, rfl⟩) ?_ ?_
     rotate_left
     ·simp only [Own.putL]
      rfl
     refine pure_ (i := 7) (N := some 41) (v := undef) (a' := ?_) #[true,true,true,true,true,true,true,true,false,false,false,false,false,false] rfl rfl (by kernel_rfl) (fun _ _ _ h => h) (Or.inr ⟨by rfl, rfl⟩) ?_ ?_
     rotate_left
     ·simp only [Own.putL]
      rfl
     refine pure_ (i := 8) (N := some 42) (v := undef) (a' := ?_) #[true,true,true,true,true,true,true,true,true,false,false,false,false,false] rfl rfl (by kernel_rfl) (fun _ _ _ h => h) (Or.inr ⟨by rfl, rfl⟩) ?_ ?_
     rotate_left
     ·simp only [Own.putL]
      rfl
     refine pure_ (i := 9) (N := some 43) (v := undef) (a' := ?_) #[true,true,true,true,true,true,true,true,true,true,false,false,false,false] rfl rfl (by kernel_rfl) (fun _ _ _ h => h) (Or.inr ⟨by rfl, rfl⟩) ?_ ?_
     rotate_left
     ·simp only [Own.putL]
      rfl
     refine pure_ (i := 10) (N := some 44) (v := undef) (a' := ?_) #[true,true,true,true,true,true,true,true,true,true,true,false,false,false] rfl rfl (by kernel_rfl) (fun _ _ _ h => h) (Or.inr ⟨by rfl, rfl⟩) ?_ ?_
     rotate_left
     ·simp only [Own.putL]
      rfl
     refine pure_ (i := 11) (N := some 45) (v := undef) (a' := ?_) #[true,true,true,true,true,true,true,true,true,true,true,true,false,false] rfl rfl (by kernel_rfl) (fun _ _ _ h => h) (Or.inr ⟨by rfl, rfl⟩) ?_ ?_
     rotate_left
     ·simp only [Own.putL]
      rfl
     refine pure_ (i := 12) (N := some 46) (v := undef) (a' := ?_) #[true,true,true,true,true,true,true,true,true,true,true,true,true,false] rfl rfl (by kernel_rfl) (fun _ _ _ h => h) (Or.inr ⟨by rfl, rfl⟩) ?_ ?_
     rotate_left
     ·simp only [Own.putL]
      rfl
     refine Own.pu_ (i := 13) (N := some 47) #[true,true,true,true,true,true,true,true,true,true,true,true,true,true] ?_
     refine done_ (by kernel_rfl) ?_
     clear hHeld
     have HQ2 := Aside0.mk (HSF.out (fun h_ => h6 h_.1))
     clear HST HSF
     go_wp2
     go_roundw
     case rel => first | exact ⟨i + 1, _, by go_num, by omega, HQ2, HOK, HS⟩ | ((repeat apply Exists.intro); exact ⟨⟨i + 1, _, by go_num, by omega, HQ2, HOK, HS⟩, rfl⟩)
     case measure => simp [intOf]; omega
   ·obtain rfl : i = n := by omega
    have hq := HQ.out
    have hle := HS.out.le
    rw [List.take_of_length_le (by omega), List.drop_of_length_le (by omega), turnAll, List.append_nil] at hq
    subst hq
    clear HQ
    go_wp2
    go_end0
    exact ⟨rfl, HS.out.out, HS.out.be, HS.out.kp⟩
 ·have b6 : (kx == 6) = false := beq_false_of_ne h6
  have hq := HQ.out
  rw [if_neg h3, if_neg h6] at hq
  subst hq
  clear HQ
  go_wp2
  go_end0
  exact ⟨rfl, HS1.out.out, HS1.out.be, HS1.out.kp⟩
end Go.Proofs.Ytcilbmbgdcepgaa.P
