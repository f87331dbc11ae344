/- The walk of the reference's bcChosen: is a list one of 1 to MaxBits different turning cells of a valid board? -/
import Derived.Test.YtcilbmbgdcepgaaYFnExactWithBitsValuePx7
import Derived.Test.YtcilbmbgdcepgaaYFnExactWithBitsValuePx44
import Derived.Test.YtcilbmbgdcepgaaYFnExactWithBitsValuePx43
import Derived.Test.YtcilbmbgdcepgaaYFnExactWithBitsValuePx3
import Derived.Deep.RegionWith
namespace Go.Proofs.Ytcilbmbgdcepgaa.P
open Go.RowKit Go.Proofs.YtcilbmbgdcepgaaW.PrintWords Go.Proofs.YtcilbmbgdcepgaaW.PrintLast Go.Proofs.YtcilbmbgdcepgaaW.PrintMore
set_option linter.unusedVariables false
/-! ### spec_bcChosen: function 59 -/
/-- The rest of a list, behind those of it that were looked at: ts are the turning cells. -/
def goC (k : Nat) (ts : List Int) : List Int → List Int → Option Bool
  | _, [] => some true
  | pre, x :: rest => (spec_l1Has.f k ts x).bind fun t => if t = true then (spec_l1Has.f k pre x).bind fun u => if u = true then some false else goC k ts (pre ++ [x]) rest else some false
def spec_bcChosen.f (k : Nat) (a0_0 : Int) (a0_1 : Int) (l0_2 : List S71) (l1 : List Int) : Option Bool :=
  (spec_boGood.f k a0_0 a0_1 l0_2).bind fun g => if g = true then (spec_bcBits.f (l1.length : Int)).bind fun t => if t = true then (spec_boTurning.f k a0_0 a0_1 l0_2).bind fun ts => goC k ts [] l1 else some false else some false
theorem goC_mono (ts : List Int) (k : Nat) : ∀ (rest pre : List Int), LeO (goC k ts pre rest) (goC (k + 1) ts pre rest) := by
  intro rest
  induction rest with
  | nil => intro pre; exact LeO.refl _
  | cons x rest ih =>
    intro pre
    unfold goC
    exact LeO.bind (spec_l1Has.mono _ _ _) (fun _ => LeO.ite (LeO.bind (spec_l1Has.mono _ _ _) (fun _ => LeO.ite (LeO.refl _) (ih _))) (LeO.refl _))
theorem spec_bcChosen.mono : ∀ a0 a1 a2 a3 k, LeO (spec_bcChosen.f k a0 a1 a2 a3) (spec_bcChosen.f (k + 1) a0 a1 a2 a3) := by
  intro a0 a1 a2 a3 k
  unfold spec_bcChosen.f
  exact LeO.bind (spec_boGood.mono _ _ _ _) (fun _ => LeO.ite (LeO.bind (LeO.refl _) (fun _ => LeO.ite (LeO.bind (spec_boTurning.mono _ _ _ _) (fun ts => goC_mono ts k _ _)) (LeO.refl _))) (LeO.refl _))
theorem goC_at (k : Nat) (ts bits : List Int) (j : Nat) (h : j < bits.length) :
    goC k ts (bits.take j) (bits.drop j) = ((spec_l1Has.f k ts (rd bits j)).bind fun t => if t = true then (spec_l1Has.f k (bits.take j) (rd bits j)).bind fun u => if u = true then some false else goC k ts (bits.take (j + 1)) (bits.drop (j + 1)) else some false) := by
  have e : rd bits j = bits[j] := by simp [rd, h]
  rw [List.drop_eq_getElem_cons h, goC, ← e, List.take_succ_eq_append_getElem h, e]
set_option maxHeartbeats 4000000 in
set_option maxRecDepth 100000 in
theorem spec_bcChosen.walk (k : Nat) (r c : Int) (A : Option Addr) (cap : Nat) (l : List S71) (B : Option Addr) (cb : Nat) (bits : List Int) (w : World) (hC : Kd.C k71 w A l.length l) (hc : l.length ≤ cap) (hB : Kd.C (Kd.int .i64) w B bits.length bits) (hcb : bits.length ≤ cb)
    (hg : spec_boGood.f k r c l = some true) (hbits : spec_bcBits.f (bits.length : Int) = some true) (ts : List Int) (hts : spec_boTurning.f k r c l = some ts) (R : Bool) (hR : goC k ts [] bits = some R) :
    Calls Try.prog 59 #[.agg #[.int .i64 r, .int .i64 c, .slice A l.length cap], .slice B bits.length cb] w fun e w' => e = .returned (.bool R) ∧ Below w.heap.size w w' := by
  have HC := Aside0.mk hC
  have Hc := Aside0.mk hc
  have HB := Aside0.mk hB
  have HR := Aside0.mk hR
  have HG := Aside0.mk hg
  have HT := Aside0.mk hts
  have HBi := Aside0.mk hbits
  have hln : bits.length ≤ 9223372036854775807 := hB.2.1
  have hb0 : ∀ o, Below w.heap.size w (w.alloc o) := fun o => (Below.refl _ _).alloc (Nat.le_refl _) _
  clear hC hB hR hg hts hc hbits
  go_enter Try.func59, Try.ntmps59
  go_wp2_with fail
  refine (spec_boGood.calls k r c A cap l true _ (Kd.C_alloc HC.out _) Hc.out HG.out).mono ?_
  rintro e w1 ⟨rfl, hb⟩
  have BK1 := Aside0.mk (blk_below (blk_new w (.cells #[.int .i64 r, .int .i64 c, .slice A l.length cap] 24)) hb)
  have HB1 := Aside0.mk ((hb0 (.cells #[.int .i64 r, .int .i64 c, .slice A l.length cap] 24)).trans (hb.mono (by simp)))
  clear hb hb0
  go_wp2_with fail
  refine (spec_bcBits.calls (bits.length : Int) true _ HBi.out).mono ?_
  rintro e w2 ⟨rfl, ⟨nd, rfl⟩⟩
  go_wp2_with fail
  have BK2 := Aside0.mk (blk_drewN BK1.out nd)
  have HB2 := Aside0.mk (pw_below_drewN HB1.out nd)
  clear BK1 HB1
  go_loopw [18] (fun i wr => ∃ j : Nat, j ≤ bits.length ∧ i = .int .i64 j ∧ Aside0 (goC k ts (bits.take j) (bits.drop j) = some R) ∧ Aside0 (wr.heap[w.heap.size]? = some (.cells #[.int .i64 r, .int .i64 c, .slice A l.length cap] 24 (0, 0))) ∧ Aside0 (Below w.heap.size w wr)) (fun i _ => bits.length - (intOf i).toNat)
  case atStart => exact ⟨0, Nat.zero_le _, rfl, ⟨by simpa using HR.out⟩, BK2, HB2⟩
  case round =>
    clear BK2 HB2 HR
    obtain ⟨j, hj, rfl, HR, BK, HBl⟩ := hrel
    by_cases hlt : j < bits.length
    · have c0 : wr.cell? ⟨w.heap.size, 0, none⟩ = some (.int .i64 r) := (blk_cell BK.out 0).trans rfl
      have c1 : wr.cell? ⟨w.heap.size, 1, none⟩ = some (.int .i64 c) := (blk_cell BK.out 1).trans rfl
      have c2 : wr.cell? ⟨w.heap.size, 2, none⟩ = some (.slice A l.length cap) := (blk_cell BK.out 2).trans rfl
      have hg := HR.out
      rw [goC_at k ts bits j hlt] at hg
      obtain ⟨t, ht, hg⟩ := Option.bind_eq_some_iff.mp hg
      obtain ⟨adB, hB', hxB⟩ : ∃ ad, B = some ad ∧ wr.cell? (ad.add j) = some (.int .i64 (rd bits j)) := by
        obtain ⟨ad, e, _⟩ := HB.out.2.2 (by omega)
        subst e
        have := Kd.foot_int HB.out (j : Int) (by omega) (by omega)
        rw [Int.toNat_natCast] at this
        exact ⟨ad, rfl, (HBl.out.cell (World.block_lt_of_cell? w _ this)).trans this⟩
      subst hB'
      have HTK := Aside0.mk (show Kd.C (Kd.int .i64) w (some adB) (bits.take j).length (bits.take j) from Kd.C_take HB.out (by omega))
      have htl : (bits.take j).length = j := by simp; omega
      rw [htl] at HTK
      have HTKL := Aside0.mk htl
      clear htl
      generalize rd bits j = x at *
      have HL := Aside0.mk ht
      clear ht HR
      cases t with
      | false =>
        simp only [Bool.false_eq_true, if_false, Option.some.injEq] at hg
        have HF := Aside0.mk hg
        clear hg
        go_wp2_with fail
        refine (spec_boTurning.calls k r c A cap l ts _ (Kd.C_below HC.out HBl.out) Hc.out HT.out).mono ?_
        rintro e w3 ⟨v, rfl, hv, hb⟩
        obtain ⟨A2, c2', rfl, hl2, hC2⟩ := Kd.R_reads hv
        have HC2 := Aside0.mk hC2
        have HB3 := Aside0.mk (HBl.out.trans (hb.mono HBl.out.size))
        clear hb hv hC2
        go_wp2_with fail
        refine (spec_l1Has.calls k A2 c2' ts x false _ HC2.out hl2 HL.out).mono ?_
        rintro e w4 ⟨rfl, ⟨nd4, rfl⟩⟩
        go_wp2_with fail
        go_ret
        exact ⟨by rw [← HF.out]; rfl, pw_below_drewN HB3.out _⟩
      | true =>
        simp only [if_true] at hg
        obtain ⟨u, hu, hg⟩ := Option.bind_eq_some_iff.mp hg
        have HU := Aside0.mk hu
        clear hu
        cases u with
        | true =>
          simp only [if_true, Option.some.injEq] at hg
          have HF := Aside0.mk hg
          clear hg
          go_wp2_with fail
          refine (spec_boTurning.calls k r c A cap l ts _ (Kd.C_below HC.out HBl.out) Hc.out HT.out).mono ?_
          rintro e w3 ⟨v, rfl, hv, hb⟩
          obtain ⟨A2, c2', rfl, hl2, hC2⟩ := Kd.R_reads hv
          have HC2 := Aside0.mk hC2
          have HB3 := Aside0.mk (HBl.out.trans (hb.mono HBl.out.size))
          have HBC := Aside0.mk (Kd.C_below HTK.out HB3.out)
          clear hb hv hC2
          go_wp2_with fail
          refine (spec_l1Has.calls k A2 c2' ts x true _ HC2.out hl2 HL.out).mono ?_
          rintro e w4 ⟨rfl, ⟨nd4, rfl⟩⟩
          go_wp2_with fail
          refine calls_of_args (args' := #[.slice (some adB) (bits.take j).length cb, .int .i64 x]) (by rw [HTKL.out]) ?_
          refine (spec_l1Has.calls k (some adB) cb (bits.take j) x true _ (Kd.C_drewN (by rw [HTKL.out]; exact HBC.out) _) (by rw [HTKL.out]; omega) HU.out).mono ?_
          rintro e w5 ⟨rfl, ⟨nd5, rfl⟩⟩
          go_wp2_with fail
          go_ret
          exact ⟨by rw [← HF.out]; rfl, (by repeat (first | exact HB3.out | apply pw_below_drewN))⟩
        | false =>
          simp only [Bool.false_eq_true, if_false] at hg
          have HR2 := Aside0.mk hg
          clear hg
          go_wp2_with fail
          refine (spec_boTurning.calls k r c A cap l ts _ (Kd.C_below HC.out HBl.out) Hc.out HT.out).mono ?_
          rintro e w3 ⟨v, rfl, hv, hb⟩
          obtain ⟨A2, c2', rfl, hl2, hC2⟩ := Kd.R_reads hv
          have HC2 := Aside0.mk hC2
          have HB3 := Aside0.mk (HBl.out.trans (hb.mono HBl.out.size))
          have BK3 := Aside0.mk (blk_below BK.out hb)
          have HBC := Aside0.mk (Kd.C_below HTK.out HB3.out)
          clear hb hv hC2 BK HBl c0 c1 c2 hxB
          go_wp2_with fail
          refine (spec_l1Has.calls k A2 c2' ts x true _ HC2.out hl2 HL.out).mono ?_
          rintro e w4 ⟨rfl, ⟨nd4, rfl⟩⟩
          go_wp2_with fail
          refine calls_of_args (args' := #[.slice (some adB) (bits.take j).length cb, .int .i64 x]) (by rw [HTKL.out]) ?_
          refine (spec_l1Has.calls k (some adB) cb (bits.take j) x false _ (Kd.C_drewN (by rw [HTKL.out]; exact HBC.out) _) (by rw [HTKL.out]; omega) HU.out).mono ?_
          rintro e w5 ⟨rfl, ⟨nd5, rfl⟩⟩
          go_wp2_with fail
          go_roundw
          case rel => exact ⟨j + 1, by omega, by go_num, HR2, ⟨(by repeat (first | exact BK3.out | apply blk_drewN))⟩, ⟨(by repeat (first | exact HB3.out | apply pw_below_drewN))⟩⟩
          case measure => simp [intOf]; omega
    · obtain rfl : j = bits.length := by omega
      have HF : Aside0 (R = true) := ⟨by have := HR.out; simp [goC] at this; exact this⟩
      go_wp2_with fail
      go_ret
      exact ⟨by rw [HF.out]; rfl, HBl.out⟩
set_option maxHeartbeats 4000000 in
set_option maxRecDepth 100000 in
theorem spec_bcChosen.no1 (k : Nat) (r c : Int) (A : Option Addr) (cap : Nat) (l : List S71) (B : Option Addr) (cb : Nat) (bits : List Int) (w : World) (hC : Kd.C k71 w A l.length l) (hc : l.length ≤ cap)
    (hg : spec_boGood.f k r c l = some false) :
    Calls Try.prog 59 #[.agg #[.int .i64 r, .int .i64 c, .slice A l.length cap], .slice B bits.length cb] w fun e w' => e = .returned (.bool false) ∧ Below w.heap.size w w' := by
  have HC := Aside0.mk hC
  have Hc := Aside0.mk hc
  have HG := Aside0.mk hg
  have hb0 : ∀ o, Below w.heap.size w (w.alloc o) := fun o => (Below.refl _ _).alloc (Nat.le_refl _) _
  clear hC hg hc
  go_enter Try.func59, Try.ntmps59
  go_wp2_with fail
  refine (spec_boGood.calls k r c A cap l false _ (Kd.C_alloc HC.out _) Hc.out HG.out).mono ?_
  rintro e w1 ⟨rfl, hb⟩
  have HB1 := Aside0.mk ((hb0 (.cells #[.int .i64 r, .int .i64 c, .slice A l.length cap] 24)).trans (hb.mono (by simp)))
  clear hb hb0
  go_wp2_with fail
  go_ret
  exact ⟨rfl, HB1.out⟩
set_option maxHeartbeats 4000000 in
set_option maxRecDepth 100000 in
theorem spec_bcChosen.no2 (k : Nat) (r c : Int) (A : Option Addr) (cap : Nat) (l : List S71) (B : Option Addr) (cb : Nat) (bits : List Int) (w : World) (hC : Kd.C k71 w A l.length l) (hc : l.length ≤ cap)
    (hg : spec_boGood.f k r c l = some true) (hbits : spec_bcBits.f (bits.length : Int) = some false) :
    Calls Try.prog 59 #[.agg #[.int .i64 r, .int .i64 c, .slice A l.length cap], .slice B bits.length cb] w fun e w' => e = .returned (.bool false) ∧ Below w.heap.size w w' := by
  have HC := Aside0.mk hC
  have Hc := Aside0.mk hc
  have HG := Aside0.mk hg
  have HBi := Aside0.mk hbits
  have hb0 : ∀ o, Below w.heap.size w (w.alloc o) := fun o => (Below.refl _ _).alloc (Nat.le_refl _) _
  clear hC hg hc hbits
  go_enter Try.func59, Try.ntmps59
  go_wp2_with fail
  refine (spec_boGood.calls k r c A cap l true _ (Kd.C_alloc HC.out _) Hc.out HG.out).mono ?_
  rintro e w1 ⟨rfl, hb⟩
  have HB1 := Aside0.mk ((hb0 (.cells #[.int .i64 r, .int .i64 c, .slice A l.length cap] 24)).trans (hb.mono (by simp)))
  clear hb hb0
  go_wp2_with fail
  refine (spec_bcBits.calls (bits.length : Int) false _ HBi.out).mono ?_
  rintro e w2 ⟨rfl, ⟨nd, rfl⟩⟩
  go_wp2_with fail
  go_ret
  exact ⟨rfl, pw_below_drewN HB1.out _⟩
theorem spec_bcChosen.calls (k : Nat) (a0_0 : Int) (a0_1 : Int) (A0_2 : Option Addr) (c0_2 : Nat) (l0_2 : List S71) (A1 : Option Addr) (c1 : Nat) (l1 : List Int) (r : Bool) (w : World) (hr0_2 : Kd.C k71 w A0_2 l0_2.length l0_2) (hc0_2 : l0_2.length ≤ c0_2) (hr1 : Kd.C (Kd.int .i64) w A1 l1.length l1) (hc1 : l1.length ≤ c1) (h : spec_bcChosen.f k a0_0 a0_1 l0_2 l1 = some r) :
    Calls Try.prog 59 #[.agg #[.int .i64 a0_0, .int .i64 a0_1, .slice A0_2 l0_2.length c0_2], .slice A1 l1.length c1] w fun e w' => e = .returned (.bool r) ∧ Below w.heap.size w w' := by
  unfold spec_bcChosen.f at h
  obtain ⟨g, hg, h⟩ := Option.bind_eq_some_iff.mp h
  cases g with
  | false =>
    simp only [Bool.false_eq_true, if_false, Option.some.injEq] at h
    subst h
    exact spec_bcChosen.no1 k a0_0 a0_1 _ _ _ _ _ _ w hr0_2 hc0_2 hg
  | true =>
    simp only [if_true] at h
    obtain ⟨t, ht, h⟩ := Option.bind_eq_some_iff.mp h
    cases t with
    | false =>
      simp only [Bool.false_eq_true, if_false, Option.some.injEq] at h
      subst h
      exact spec_bcChosen.no2 k a0_0 a0_1 _ _ _ _ _ _ w hr0_2 hc0_2 hg ht
    | true =>
      simp only [if_true] at h
      obtain ⟨ts, hts, h⟩ := Option.bind_eq_some_iff.mp h
      exact spec_bcChosen.walk k a0_0 a0_1 _ _ _ _ _ _ w hr0_2 hc0_2 hr1 hc1 hg ht ts hts r h
end Go.Proofs.Ytcilbmbgdcepgaa.P
