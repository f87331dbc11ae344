/- The walk of impl.AreEqual (printed by gen_fp.py). -/
import Derived.Test.YtadhbepoblllhaaYFnExactAreEqualPx19
import Derived.Test.YtadhbepoblllhaaZFnExactAreEqual0
import Derived.Test.YtadhbepoblllhaaYFnExactAreEqualVKind
import Derived.Test.YtadhbepoblllhaaYFnExactAreEqualAEq
namespace Go.Proofs.Ytadhbepoblllhaa.P
open Go.RowKit Go.Proofs.YtadhbepoblllhaaW.PrintWords Go.Proofs.YtadhbepoblllhaaW.PrintLast Go.Proofs.YtadhbepoblllhaaW.PrintMore Go.Proofs.Ytadhbepoblllhaa.Own Go.Proofs.Ytadhbepoblllhaa.A
set_option linter.unusedVariables false
set_option linter.unusedSimpArgs false
/-! ### impl_AreEqual: function 11 -/
def impl_AreEqual.f (k : Nat) (a0_0 : Int) (l0_1 : List (List Int)) (l0_2 : List Int) (a1_0 : Int) (l1_1 : List (List Int)) (l1_2 : List Int) : Option (Bool × Bool) := if AuSm l0_1 l0_2 ∧ AuSm l1_1 l1_2 then some (resTwo 3 a0_0 l0_1 l0_2 a1_0 l1_1 l1_2) else none
set_option maxHeartbeats 4000000 in
set_option maxRecDepth 100000 in
theorem impl_AreEqual.calls (k : Nat) (a0_0 : Int) (A0_1 : Option Addr) (c0_1 : Nat) (l0_1 : List (List Int)) (A0_2 : Option Addr) (c0_2 : Nat) (l0_2 : List Int) (a1_0 : Int) (A1_1 : Option Addr) (c1_1 : Nat) (l1_1 : List (List Int)) (A1_2 : Option Addr) (c1_2 : Nat) (l1_2 : List Int) (r1 r2 : Bool) (w : World) (hr0_1 : Kd.C (Kd.slice 3 (Kd.int .i64)) w A0_1 l0_1.length l0_1) (hc0_1 : l0_1.length ≤ c0_1) (hr0_2 : Kd.C (Kd.int .i64) w A0_2 l0_2.length l0_2) (hc0_2 : l0_2.length ≤ c0_2) (hr1_1 : Kd.C (Kd.slice 3 (Kd.int .i64)) w A1_1 l1_1.length l1_1) (hc1_1 : l1_1.length ≤ c1_1) (hr1_2 : Kd.C (Kd.int .i64) w A1_2 l1_2.length l1_2) (hc1_2 : l1_2.length ≤ c1_2) (h : impl_AreEqual.f k a0_0 l0_1 l0_2 a1_0 l1_1 l1_2 = some (r1, r2)) :
    Calls Try.prog 11 #[.agg #[.int .i64 a0_0, .slice A0_1 l0_1.length c0_1, .slice A0_2 l0_2.length c0_2], .agg #[.int .i64 a1_0, .slice A1_1 l1_1.length c1_1, .slice A1_2 l1_2.length c1_2]] w fun e w' => e = .returned (.tuple #[.bool r1, .bool r2]) ∧ Below w.heap.size w w' := by
  have hu29 := Try.underlying29
  unfold impl_AreEqual.f at h
  by_cases hsm : AuSm l0_1 l0_2 ∧ AuSm l1_1 l1_2
  case neg => rw [if_neg hsm] at h; simp at h
  rw [if_pos hsm] at h
  replace h := Option.some.inj h
  have H01 := Aside0.mk hr0_1
  have H02 := Aside0.mk hr0_2
  have H11 := Aside0.mk hr1_1
  have H12 := Aside0.mk hr1_2
  have C01 := Aside0.mk hc0_1
  have C02 := Aside0.mk hc0_2
  have C11 := Aside0.mk hc1_1
  have C12 := Aside0.mk hc1_2
  have hsz1 : (w.alloc (.cells #[.int .i64 a0_0, .slice A0_1 l0_1.length c0_1, .slice A0_2 l0_2.length c0_2] 29)).heap.size = w.heap.size + 1 := Array.size_push _
  have B0 := Aside0.mk (blk_alloc (blk_new w (.cells #[.int .i64 a0_0, .slice A0_1 l0_1.length c0_1, .slice A0_2 l0_2.length c0_2] 29)) (.cells #[.int .i64 a1_0, .slice A1_1 l1_1.length c1_1, .slice A1_2 l1_2.length c1_2] 29))
  have B1_ := Aside0.mk (blk_new (w.alloc (.cells #[.int .i64 a0_0, .slice A0_1 l0_1.length c0_1, .slice A0_2 l0_2.length c0_2] 29)) (.cells #[.int .i64 a1_0, .slice A1_1 l1_1.length c1_1, .slice A1_2 l1_2.length c1_2] 29))
  rw [hsz1] at B1_
  have HB0 := Aside0.mk (below_alloc (below_alloc (Below.refl w.heap.size w) (.cells #[.int .i64 a0_0, .slice A0_1 l0_1.length c0_1, .slice A0_2 l0_2.length c0_2] 29)) (.cells #[.int .i64 a1_0, .slice A1_1 l1_1.length c1_1, .slice A1_2 l1_2.length c1_2] 29))
  obtain ⟨K, hK⟩ := arePair (kind := 3) (L := a0_0) (L2 := a1_0) hsm.1 hsm.2
  have HK : Aside0 (impl_arePair.f K 3 a0_0 l0_1 l0_2 a1_0 l1_1 l1_2 = some (decide (PairOk 3 a0_0 l0_1 l0_2 a1_0 l1_1 l1_2))) := ⟨hK K (Nat.le_refl _)⟩
  have HSM := Aside0.mk hsm
  clear hsz1 hK hsm hr0_1 hc0_1 hr0_2 hc0_2 hr1_1 hc1_1 hr1_2 hc1_2
  unfold resTwo at h
  by_cases hok : PairOk 3 a0_0 l0_1 l0_2 a1_0 l1_1 l1_2
  · rw [if_pos hok] at h
    have HK2 : Aside0 (impl_arePair.f K 3 a0_0 l0_1 l0_2 a1_0 l1_1 l1_2 = some true) := ⟨by rw [HK.out]; exact congrArg some (decide_eq_true hok)⟩
    have HOK := Aside0.mk hok
    clear HK hok
    go_enter Try.func11, Try.ntmps11
    go_wp2_with fail
    refine (impl_arePair.calls K 3 _ _ _ _ _ _ _ _ _ _ _ _ _ _ true _ (Kd.C_below H01.out HB0.out) C01.out (Kd.C_below H02.out HB0.out) C02.out (Kd.C_below H11.out HB0.out) C11.out (Kd.C_below H12.out HB0.out) C12.out HK2.out).mono ?_
    rintro e w2 ⟨rfl, hb⟩
    have HB2 := Aside0.mk (below_step HB0.out hb)
    have y0 : w2.cell? ⟨w.heap.size, 0, none⟩ = some (.int .i64 a0_0) := (blk_cell (blk_below B0.out hb) 0).trans rfl
    have y1 : w2.cell? ⟨w.heap.size, 1, none⟩ = some (.slice A0_1 l0_1.length c0_1) := (blk_cell (blk_below B0.out hb) 1).trans rfl
    have y2 : w2.cell? ⟨w.heap.size, 2, none⟩ = some (.slice A0_2 l0_2.length c0_2) := (blk_cell (blk_below B0.out hb) 2).trans rfl
    have z0 : w2.cell? ⟨w.heap.size + 1, 0, none⟩ = some (.int .i64 a1_0) := (blk_cell (blk_below B1_.out hb) 0).trans rfl
    have z1 : w2.cell? ⟨w.heap.size + 1, 1, none⟩ = some (.slice A1_1 l1_1.length c1_1) := (blk_cell (blk_below B1_.out hb) 1).trans rfl
    have z2 : w2.cell? ⟨w.heap.size + 1, 2, none⟩ = some (.slice A1_2 l1_2.length c1_2) := (blk_cell (blk_below B1_.out hb) 2).trans rfl
    clear hb HB0 B0 B1_ HK2
    go_wp2_with fail
    simp only [Prod.mk.injEq] at h
    obtain ⟨h1, rfl⟩ := h
    obtain ⟨⟨q1, q2⟩, hq⟩ : ∃ q, q = wordOf 3 l0_1 l0_2 l1_1 l1_2 0 0 := ⟨_, rfl⟩
    rw [← hq] at h1
    simp only at h1
    subst h1
    have HQ := Aside0.mk hq.symm
    clear hq
    refine (firstOfKind_own 3 _ _ _ l0_1 _ _ l0_2 _ _ _ l1_1 _ _ l1_2 0 0 q1 q2 _ (Kd.C_below H01.out HB2.out) (Kd.C_below H02.out HB2.out) C02.out (Kd.C_below H11.out HB2.out) (Kd.C_below H12.out HB2.out) C12.out HOK.out.two (AuOk.zero HOK.out.2.1 HOK.out.2.2.1) HQ.out).mono ?_
    rintro e w3 ⟨v0, rfl, hR, hb⟩
    have HB3 := Aside0.mk (below_step HB2.out hb)
    have HR := Aside0.mk (Kd.R_lower hR HB2.out.size)
    clear hb hR y0 y1 y2 z0 z1 z2
    go_wp2_with fail
    go_ret2
    exact ⟨rfl, HB3.out⟩
  · rw [if_neg hok] at h
    simp only [Prod.mk.injEq] at h
    obtain ⟨rfl, rfl⟩ := h
    have HK2 : Aside0 (impl_arePair.f K 3 a0_0 l0_1 l0_2 a1_0 l1_1 l1_2 = some false) := ⟨by rw [HK.out]; exact congrArg some (decide_eq_false hok)⟩
    have HOK := Aside0.mk hok
    clear HK hok
    go_enter Try.func11, Try.ntmps11
    go_wp2_with fail
    refine (impl_arePair.calls K 3 _ _ _ _ _ _ _ _ _ _ _ _ _ _ false _ (Kd.C_below H01.out HB0.out) C01.out (Kd.C_below H02.out HB0.out) C02.out (Kd.C_below H11.out HB0.out) C11.out (Kd.C_below H12.out HB0.out) C12.out HK2.out).mono ?_
    rintro e w2 ⟨rfl, hb⟩
    have HB2 := Aside0.mk (below_step HB0.out hb)
    clear hb HB0 B0 B1_ HK2
    go_wp2_with fail
    go_ret2
    exact ⟨rfl, HB2.out⟩
end Go.Proofs.Ytadhbepoblllhaa.P
