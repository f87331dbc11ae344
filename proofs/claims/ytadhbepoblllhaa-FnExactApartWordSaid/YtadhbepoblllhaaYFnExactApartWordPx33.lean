/- The walk of spec.ApartWord (printed by gen_fp.py). -/
import Derived.Test.YtadhbepoblllhaaYFnExactApartWordPx7
import Derived.Test.YtadhbepoblllhaaYFnExactApartWordPx13
import Derived.Test.YtadhbepoblllhaaZFnExactApartWord0
import Derived.IntWalk
import Derived.Test.YtadhbepoblllhaaYFnExactApartWordAEq
namespace Go.Proofs.Ytadhbepoblllhaa.P
open Go.RowKit Go.Proofs.YtadhbepoblllhaaW.PrintWords Go.Proofs.YtadhbepoblllhaaW.PrintLast Go.Proofs.YtadhbepoblllhaaW.PrintMore Go.Proofs.Ytadhbepoblllhaa.Own Go.Proofs.Ytadhbepoblllhaa.A
set_option linter.unusedVariables false
set_option linter.unusedSimpArgs false
/-! ### spec_ApartWord: function 15 -/
def spec_ApartWord.f (k : Nat) (a0_0 : Int) (l0_1 : List (List Int)) (l0_2 : List Int) (a1 : Int) (a2 : Int) : Option (List Int × Bool) := if AuSm l0_1 l0_2 then some (resApart a0_0 l0_1 l0_2 a1 a2) else none
set_option maxHeartbeats 4000000 in
set_option maxRecDepth 100000 in
theorem spec_ApartWord.calls (k : Nat) (a0_0 : Int) (A0_1 : Option Addr) (c0_1 : Nat) (l0_1 : List (List Int)) (A0_2 : Option Addr) (c0_2 : Nat) (l0_2 : List Int) (a1 a2 : Int) (r1 : List Int) (r2 : Bool) (w : World) (hr0_1 : Kd.C (Kd.slice 3 (Kd.int .i64)) w A0_1 l0_1.length l0_1) (hc0_1 : l0_1.length ≤ c0_1) (hr0_2 : Kd.C (Kd.int .i64) w A0_2 l0_2.length l0_2) (hc0_2 : l0_2.length ≤ c0_2) (h : spec_ApartWord.f k a0_0 l0_1 l0_2 a1 a2 = some (r1, r2)) :
    Calls Try.prog 15 #[.agg #[.int .i64 a0_0, .slice A0_1 l0_1.length c0_1, .slice A0_2 l0_2.length c0_2], .int .i64 a1, .int .i64 a2] w fun e w' => ∃ v0_ : Value, e = .returned (.tuple #[v0_, .bool r2]) ∧ Kd.R (Kd.int .i64) 3 w' w.heap.size (fun _ => True) v0_ r1 ∧ Below w.heap.size w w' := by
  have hu29 := Try.underlying29
  unfold spec_ApartWord.f at h
  by_cases hsm : AuSm l0_1 l0_2
  case neg => rw [if_neg hsm] at h; simp at h
  rw [if_pos hsm] at h
  replace h := Option.some.inj h
  have H01 := Aside0.mk hr0_1
  have H02 := Aside0.mk hr0_2
  have C01 := Aside0.mk hc0_1
  have C02 := Aside0.mk hc0_2
  have B0 := Aside0.mk (blk_new w (.cells #[.int .i64 a0_0, .slice A0_1 l0_1.length c0_1, .slice A0_2 l0_2.length c0_2] 29))
  have HB0 := Aside0.mk (below_alloc (Below.refl w.heap.size w) (.cells #[.int .i64 a0_0, .slice A0_1 l0_1.length c0_1, .slice A0_2 l0_2.length c0_2] 29))
  obtain ⟨K, hK⟩ := auGood a0_0 l0_1 l0_2 hsm.max.1 hsm.max.2.1 hsm.max.2.2
  have HK : Aside0 (spec_auGood.f K a0_0 l0_1 l0_2 = some (decide (AuOk a0_0 l0_1 l0_2))) := ⟨hK K (Nat.le_refl _)⟩
  have hl20 : l0_1.length ≤ 1048576 := hsm.1
  clear hr0_1 hr0_2 hc0_1 hc0_2 hK hsm
  unfold resApart at h
  by_cases hok : AuOk a0_0 l0_1 l0_2
  · have HK2 : Aside0 (spec_auGood.f K a0_0 l0_1 l0_2 = some true) := ⟨by rw [HK.out]; exact congrArg some (decide_eq_true hok)⟩
    have HOK := Aside0.mk hok
    clear HK hok
    by_cases t0 : InS l0_1 a1
    case neg =>
      rw [if_neg (fun h_ => t0 h_.2.1)] at h
      simp only [Prod.mk.injEq] at h
      obtain ⟨rfl, rfl⟩ := h
      have HI0 : Aside0 (spec_l1In.f a1 0 ((l0_1.length : Int) - 1) = some false) := ⟨by rw [in_f]; exact congrArg some (decide_eq_false (fun h_ => t0 ⟨h_.1, by omega⟩))⟩
      clear t0
      go_enter Try.func15, Try.ntmps15
      go_wp2_with fail
      refine (spec_auGood.calls K _ _ _ _ _ _ _ true _ (Kd.C_below H01.out HB0.out) C01.out (Kd.C_below H02.out HB0.out) C02.out HK2.out).mono ?_
      rintro e w2 ⟨rfl, hb⟩
      have HB2 := Aside0.mk (below_step HB0.out hb)
      have y0 : w2.cell? ⟨w.heap.size, 0, none⟩ = some (.int .i64 a0_0) := (blk_cell (blk_below B0.out hb) 0).trans rfl
      have y1 : w2.cell? ⟨w.heap.size, 1, none⟩ = some (.slice A0_1 l0_1.length c0_1) := (blk_cell (blk_below B0.out hb) 1).trans rfl
      have y2 : w2.cell? ⟨w.heap.size, 2, none⟩ = some (.slice A0_2 l0_2.length c0_2) := (blk_cell (blk_below B0.out hb) 2).trans rfl
      clear hb HB0 B0 HK2
      have e1 : IntKind.i64.wrap ((l0_1.length : Int) - 1) = (l0_1.length : Int) - 1 := IntWalk.i64_in _ (by omega)
      go_wp2_with (first
        | (go_at_call 37; (with_reducible refine (spec_l1In.calls a1 0 ((l0_1.length : Int) - 1) _ _ HI0.out).mono ?_); rintro e w' ⟨rfl, ⟨nd, rfl⟩⟩)
        | fail)
      go_ret2
      exact ⟨_, rfl, Kd.R_nil _ _ _ _ _, below_step HB2.out (by repeat (first | with_reducible exact Below.refl _ _ | with_reducible apply below_alloc | with_reducible apply pw_below_drewN | with_reducible apply below_drew1))⟩
    have HI0 : Aside0 (spec_l1In.f a1 0 ((l0_1.length : Int) - 1) = some true) := ⟨by rw [in_f]; exact congrArg some (decide_eq_true ⟨t0.1, by have := t0.2; omega⟩)⟩
    by_cases t1 : InS l0_1 a2
    case neg =>
      rw [if_neg (fun h_ => t1 h_.2.2)] at h
      simp only [Prod.mk.injEq] at h
      obtain ⟨rfl, rfl⟩ := h
      have HI1 : Aside0 (spec_l1In.f a2 0 ((l0_1.length : Int) - 1) = some false) := ⟨by rw [in_f]; exact congrArg some (decide_eq_false (fun h_ => t1 ⟨h_.1, by omega⟩))⟩
      clear t1
      go_enter Try.func15, Try.ntmps15
      go_wp2_with fail
      refine (spec_auGood.calls K _ _ _ _ _ _ _ true _ (Kd.C_below H01.out HB0.out) C01.out (Kd.C_below H02.out HB0.out) C02.out HK2.out).mono ?_
      rintro e w2 ⟨rfl, hb⟩
      have HB2 := Aside0.mk (below_step HB0.out hb)
      have y0 : w2.cell? ⟨w.heap.size, 0, none⟩ = some (.int .i64 a0_0) := (blk_cell (blk_below B0.out hb) 0).trans rfl
      have y1 : w2.cell? ⟨w.heap.size, 1, none⟩ = some (.slice A0_1 l0_1.length c0_1) := (blk_cell (blk_below B0.out hb) 1).trans rfl
      have y2 : w2.cell? ⟨w.heap.size, 2, none⟩ = some (.slice A0_2 l0_2.length c0_2) := (blk_cell (blk_below B0.out hb) 2).trans rfl
      clear hb HB0 B0 HK2
      have e1 : IntKind.i64.wrap ((l0_1.length : Int) - 1) = (l0_1.length : Int) - 1 := IntWalk.i64_in _ (by omega)
      go_wp2_with (first
        | (go_at_call 37; (with_reducible refine (spec_l1In.calls a1 0 ((l0_1.length : Int) - 1) _ _ HI0.out).mono ?_); rintro e w' ⟨rfl, ⟨nd, rfl⟩⟩)
        | (go_at_call 37; (with_reducible refine (spec_l1In.calls a2 0 ((l0_1.length : Int) - 1) _ _ HI1.out).mono ?_); rintro e w' ⟨rfl, ⟨nd, rfl⟩⟩)
        | fail)
      go_ret2
      exact ⟨_, rfl, Kd.R_nil _ _ _ _ _, below_step HB2.out (by repeat (first | with_reducible exact Below.refl _ _ | with_reducible apply below_alloc | with_reducible apply pw_below_drewN | with_reducible apply below_drew1))⟩
    have HI1 : Aside0 (spec_l1In.f a2 0 ((l0_1.length : Int) - 1) = some true) := ⟨by rw [in_f]; exact congrArg some (decide_eq_true ⟨t1.1, by have := t1.2; omega⟩)⟩
    rw [if_pos ⟨HOK.out, t0, t1⟩] at h
    have HQ := Aside0.mk h
    have HV : Aside0 (VP l0_1 l0_1 (a1, a2)) := ⟨⟨t0, t1⟩⟩
    clear h t0 t1
    go_enter Try.func15, Try.ntmps15
    go_wp2_with fail
    refine (spec_auGood.calls K _ _ _ _ _ _ _ true _ (Kd.C_below H01.out HB0.out) C01.out (Kd.C_below H02.out HB0.out) C02.out HK2.out).mono ?_
    rintro e w2 ⟨rfl, hb⟩
    have HB2 := Aside0.mk (below_step HB0.out hb)
    have y0 : w2.cell? ⟨w.heap.size, 0, none⟩ = some (.int .i64 a0_0) := (blk_cell (blk_below B0.out hb) 0).trans rfl
    have y1 : w2.cell? ⟨w.heap.size, 1, none⟩ = some (.slice A0_1 l0_1.length c0_1) := (blk_cell (blk_below B0.out hb) 1).trans rfl
    have y2 : w2.cell? ⟨w.heap.size, 2, none⟩ = some (.slice A0_2 l0_2.length c0_2) := (blk_cell (blk_below B0.out hb) 2).trans rfl
    clear hb HB0 B0 HK2
    have e1 : IntKind.i64.wrap ((l0_1.length : Int) - 1) = (l0_1.length : Int) - 1 := IntWalk.i64_in _ (by omega)
    go_wp2_with (first
      | (go_at_call 37; (with_reducible refine (spec_l1In.calls a1 0 ((l0_1.length : Int) - 1) _ _ HI0.out).mono ?_); rintro e w' ⟨rfl, ⟨nd, rfl⟩⟩)
      | (go_at_call 37; (with_reducible refine (spec_l1In.calls a2 0 ((l0_1.length : Int) - 1) _ _ HI1.out).mono ?_); rintro e w' ⟨rfl, ⟨nd, rfl⟩⟩)
      | fail)
    refine (eqWord_walk 3 _ _ _ l0_1 _ _ l0_2 _ _ _ l0_1 _ _ l0_2 a1 a2 r1 r2 _ (Kd.C_below H01.out (below_step HB2.out (by repeat (first | with_reducible exact Below.refl _ _ | with_reducible apply below_alloc | with_reducible apply pw_below_drewN | with_reducible apply below_drew1)))) (Kd.C_below H02.out (below_step HB2.out (by repeat (first | with_reducible exact Below.refl _ _ | with_reducible apply below_alloc | with_reducible apply pw_below_drewN | with_reducible apply below_drew1)))) C02.out (Kd.C_below H01.out (below_step HB2.out (by repeat (first | with_reducible exact Below.refl _ _ | with_reducible apply below_alloc | with_reducible apply pw_below_drewN | with_reducible apply below_drew1)))) (Kd.C_below H02.out (below_step HB2.out (by repeat (first | with_reducible exact Below.refl _ _ | with_reducible apply below_alloc | with_reducible apply pw_below_drewN | with_reducible apply below_drew1)))) C02.out (TwoOk.of HOK.out HOK.out) HV.out HQ.out).mono ?_
    rintro e w3 ⟨v0, rfl, hR, hb⟩
    have HB3 := Aside0.mk (below_step (below_step HB2.out (by repeat (first | with_reducible exact Below.refl _ _ | with_reducible apply below_alloc | with_reducible apply pw_below_drewN | with_reducible apply below_drew1))) hb)
    have HR := Aside0.mk (Kd.R_lower hR (below_step HB2.out (by repeat (first | with_reducible exact Below.refl _ _ | with_reducible apply below_alloc | with_reducible apply pw_below_drewN | with_reducible apply below_drew1))).size)
    clear hb hR y0 y1 y2
    go_wp2_with fail
    go_ret2
    exact ⟨_, rfl, HR.out, HB3.out⟩
  · rw [if_neg (fun h_ => hok h_.1)] at h
    simp only [Prod.mk.injEq] at h
    obtain ⟨rfl, rfl⟩ := h
    have HK2 : Aside0 (spec_auGood.f K a0_0 l0_1 l0_2 = some false) := ⟨by rw [HK.out]; exact congrArg some (decide_eq_false hok)⟩
    clear HK hok
    go_enter Try.func15, Try.ntmps15
    go_wp2_with fail
    refine (spec_auGood.calls K _ _ _ _ _ _ _ false _ (Kd.C_below H01.out HB0.out) C01.out (Kd.C_below H02.out HB0.out) C02.out HK2.out).mono ?_
    rintro e w2 ⟨rfl, hb⟩
    have HB2 := Aside0.mk (below_step HB0.out hb)
    have y0 : w2.cell? ⟨w.heap.size, 0, none⟩ = some (.int .i64 a0_0) := (blk_cell (blk_below B0.out hb) 0).trans rfl
    have y1 : w2.cell? ⟨w.heap.size, 1, none⟩ = some (.slice A0_1 l0_1.length c0_1) := (blk_cell (blk_below B0.out hb) 1).trans rfl
    have y2 : w2.cell? ⟨w.heap.size, 2, none⟩ = some (.slice A0_2 l0_2.length c0_2) := (blk_cell (blk_below B0.out hb) 2).trans rfl
    clear hb HB0 B0 HK2
    go_wp2_with fail
    go_ret2
    exact ⟨_, rfl, Kd.R_nil _ _ _ _ _, HB2.out⟩
end Go.Proofs.Ytadhbepoblllhaa.P
