/- The walk of spec.FirstWord (printed by gen_fp.py). -/
import Derived.Test.YtadhbepoblllhaaYFnExactFirstWordPx8
import Derived.Test.YtadhbepoblllhaaYFnExactFirstWordPx13
import Derived.Test.YtadhbepoblllhaaYFnExactFirstWordAEq
namespace Go.Proofs.Ytadhbepoblllhaa.P
open Go.RowKit Go.Proofs.YtadhbepoblllhaaW.PrintWords Go.Proofs.YtadhbepoblllhaaW.PrintLast Go.Proofs.YtadhbepoblllhaaW.PrintMore Go.Proofs.Ytadhbepoblllhaa.Own Go.Proofs.Ytadhbepoblllhaa.A
set_option linter.unusedVariables false
set_option linter.unusedSimpArgs false
/-! ### spec_FirstWord: function 21 -/
def spec_FirstWord.f (k : Nat) (a0 : Int) (a1_0 : Int) (l1_1 : List (List Int)) (l1_2 : List Int) (a2_0 : Int) (l2_1 : List (List Int)) (l2_2 : List Int) : Option (List Int × Bool) := if AuSm l1_1 l1_2 ∧ AuSm l2_1 l2_2 then some (resFirst a0 a1_0 l1_1 l1_2 a2_0 l2_1 l2_2) else none
set_option maxHeartbeats 4000000 in
set_option maxRecDepth 100000 in
theorem spec_FirstWord.calls (k : Nat) (a0 : Int) (a1_0 : Int) (A1_1 : Option Addr) (c1_1 : Nat) (l1_1 : List (List Int)) (A1_2 : Option Addr) (c1_2 : Nat) (l1_2 : List Int) (a2_0 : Int) (A2_1 : Option Addr) (c2_1 : Nat) (l2_1 : List (List Int)) (A2_2 : Option Addr) (c2_2 : Nat) (l2_2 : List Int) (r1 : List Int) (r2 : Bool) (w : World) (hr1_1 : Kd.C (Kd.slice 3 (Kd.int .i64)) w A1_1 l1_1.length l1_1) (hc1_1 : l1_1.length ≤ c1_1) (hr1_2 : Kd.C (Kd.int .i64) w A1_2 l1_2.length l1_2) (hc1_2 : l1_2.length ≤ c1_2) (hr2_1 : Kd.C (Kd.slice 3 (Kd.int .i64)) w A2_1 l2_1.length l2_1) (hc2_1 : l2_1.length ≤ c2_1) (hr2_2 : Kd.C (Kd.int .i64) w A2_2 l2_2.length l2_2) (hc2_2 : l2_2.length ≤ c2_2) (h : spec_FirstWord.f k a0 a1_0 l1_1 l1_2 a2_0 l2_1 l2_2 = some (r1, r2)) :
    Calls Try.prog 21 #[.int .i64 a0, .agg #[.int .i64 a1_0, .slice A1_1 l1_1.length c1_1, .slice A1_2 l1_2.length c1_2], .agg #[.int .i64 a2_0, .slice A2_1 l2_1.length c2_1, .slice A2_2 l2_2.length c2_2]] w fun e w' => ∃ v0_ : Value, e = .returned (.tuple #[v0_, .bool r2]) ∧ Kd.R (Kd.int .i64) 3 w' w.heap.size (fun _ => True) v0_ r1 ∧ Below w.heap.size w w' := by
  have hu29 := Try.underlying29
  unfold spec_FirstWord.f at h
  by_cases hsm : AuSm l1_1 l1_2 ∧ AuSm l2_1 l2_2
  case neg => rw [if_neg hsm] at h; simp at h
  rw [if_pos hsm] at h
  replace h := Option.some.inj h
  have H11 := Aside0.mk hr1_1
  have H12 := Aside0.mk hr1_2
  have H21 := Aside0.mk hr2_1
  have H22 := Aside0.mk hr2_2
  have C11 := Aside0.mk hc1_1
  have C12 := Aside0.mk hc1_2
  have C21 := Aside0.mk hc2_1
  have C22 := Aside0.mk hc2_2
  have hsz1 : (w.alloc (.cells #[.int .i64 a1_0, .slice A1_1 l1_1.length c1_1, .slice A1_2 l1_2.length c1_2] 29)).heap.size = w.heap.size + 1 := Array.size_push _
  have B0 := Aside0.mk (blk_alloc (blk_new w (.cells #[.int .i64 a1_0, .slice A1_1 l1_1.length c1_1, .slice A1_2 l1_2.length c1_2] 29)) (.cells #[.int .i64 a2_0, .slice A2_1 l2_1.length c2_1, .slice A2_2 l2_2.length c2_2] 29))
  have B1_ := Aside0.mk (blk_new (w.alloc (.cells #[.int .i64 a1_0, .slice A1_1 l1_1.length c1_1, .slice A1_2 l1_2.length c1_2] 29)) (.cells #[.int .i64 a2_0, .slice A2_1 l2_1.length c2_1, .slice A2_2 l2_2.length c2_2] 29))
  rw [hsz1] at B1_
  have HB0 := Aside0.mk (below_alloc (below_alloc (Below.refl w.heap.size w) (.cells #[.int .i64 a1_0, .slice A1_1 l1_1.length c1_1, .slice A1_2 l1_2.length c1_2] 29)) (.cells #[.int .i64 a2_0, .slice A2_1 l2_1.length c2_1, .slice A2_2 l2_2.length c2_2] 29))
  obtain ⟨K, hK⟩ := eqTwo (kind := a0) (L := a1_0) (L2 := a2_0) hsm.1 hsm.2
  have HK : Aside0 (spec_eqTwo.f K a0 a1_0 l1_1 l1_2 a2_0 l2_1 l2_2 = some (decide (PairOk a0 a1_0 l1_1 l1_2 a2_0 l2_1 l2_2))) := ⟨hK K (Nat.le_refl _)⟩
  have HSM := Aside0.mk hsm
  clear hsz1 hK hsm hr1_1 hc1_1 hr1_2 hc1_2 hr2_1 hc2_1 hr2_2 hc2_2
  unfold resFirst at h
  by_cases hok : PairOk a0 a1_0 l1_1 l1_2 a2_0 l2_1 l2_2
  · rw [if_pos hok] at h
    have HK2 : Aside0 (spec_eqTwo.f K a0 a1_0 l1_1 l1_2 a2_0 l2_1 l2_2 = some true) := ⟨by rw [HK.out]; exact congrArg some (decide_eq_true hok)⟩
    have HOK := Aside0.mk hok
    clear HK hok
    go_enter Try.func21, Try.ntmps21
    go_wp2_with fail
    refine (spec_eqTwo.calls K a0 _ _ _ _ _ _ _ _ _ _ _ _ _ _ true _ (Kd.C_below H11.out HB0.out) C11.out (Kd.C_below H12.out HB0.out) C12.out (Kd.C_below H21.out HB0.out) C21.out (Kd.C_below H22.out HB0.out) C22.out HK2.out).mono ?_
    rintro e w2 ⟨rfl, hb⟩
    have HB2 := Aside0.mk (below_step HB0.out hb)
    have y0 : w2.cell? ⟨w.heap.size, 0, none⟩ = some (.int .i64 a1_0) := (blk_cell (blk_below B0.out hb) 0).trans rfl
    have y1 : w2.cell? ⟨w.heap.size, 1, none⟩ = some (.slice A1_1 l1_1.length c1_1) := (blk_cell (blk_below B0.out hb) 1).trans rfl
    have y2 : w2.cell? ⟨w.heap.size, 2, none⟩ = some (.slice A1_2 l1_2.length c1_2) := (blk_cell (blk_below B0.out hb) 2).trans rfl
    have z0 : w2.cell? ⟨w.heap.size + 1, 0, none⟩ = some (.int .i64 a2_0) := (blk_cell (blk_below B1_.out hb) 0).trans rfl
    have z1 : w2.cell? ⟨w.heap.size + 1, 1, none⟩ = some (.slice A2_1 l2_1.length c2_1) := (blk_cell (blk_below B1_.out hb) 1).trans rfl
    have z2 : w2.cell? ⟨w.heap.size + 1, 2, none⟩ = some (.slice A2_2 l2_2.length c2_2) := (blk_cell (blk_below B1_.out hb) 2).trans rfl
    clear hb HB0 B0 B1_ HK2
    go_wp2_with fail
    have HQ := Aside0.mk h
    clear h
    refine (eqWord_walk a0 _ _ _ l1_1 _ _ l1_2 _ _ _ l2_1 _ _ l2_2 0 0 r1 r2 _ (Kd.C_below H11.out HB2.out) (Kd.C_below H12.out HB2.out) C12.out (Kd.C_below H21.out HB2.out) (Kd.C_below H22.out HB2.out) C22.out HOK.out.two (AuOk.zero HOK.out.2.1 HOK.out.2.2.1) HQ.out).mono ?_
    rintro e w3 ⟨v0, rfl, hR, hb⟩
    have HB3 := Aside0.mk (below_step HB2.out hb)
    have HR := Aside0.mk (Kd.R_lower hR HB2.out.size)
    clear hb hR y0 y1 y2 z0 z1 z2
    go_wp2_with fail
    go_ret2
    exact ⟨_, rfl, HR.out, HB3.out⟩
  · rw [if_neg hok] at h
    simp only [Prod.mk.injEq] at h
    obtain ⟨rfl, rfl⟩ := h
    have HK2 : Aside0 (spec_eqTwo.f K a0 a1_0 l1_1 l1_2 a2_0 l2_1 l2_2 = some false) := ⟨by rw [HK.out]; exact congrArg some (decide_eq_false hok)⟩
    have HOK := Aside0.mk hok
    clear HK hok
    go_enter Try.func21, Try.ntmps21
    go_wp2_with fail
    refine (spec_eqTwo.calls K a0 _ _ _ _ _ _ _ _ _ _ _ _ _ _ false _ (Kd.C_below H11.out HB0.out) C11.out (Kd.C_below H12.out HB0.out) C12.out (Kd.C_below H21.out HB0.out) C21.out (Kd.C_below H22.out HB0.out) C22.out HK2.out).mono ?_
    rintro e w2 ⟨rfl, hb⟩
    have HB2 := Aside0.mk (below_step HB0.out hb)
    clear hb HB0 B0 B1_ HK2
    go_wp2_with fail
    go_ret2
    exact ⟨_, rfl, Kd.R_nil _ _ _ _ _, HB2.out⟩
end Go.Proofs.Ytadhbepoblllhaa.P
