/- The walk of spec.AddsWith (printed by gen_cw.py). -/
import Derived.Test.YtcilbmbgdcepgaaYFnExactAddsWithACar
import Derived.Test.YtcilbmbgdcepgaaYFnExactAddsWithABitsR
import Derived.Test.YtcilbmbgdcepgaaYFnExactAddsWithAEn
import Derived.Test.YtcilbmbgdcepgaaOwnW
import Derived.IntWalk
import Derived.Test.YtcilbmbgdcepgaaYFnExactAddsWithPx79
import Derived.Test.YtcilbmbgdcepgaaYFnExactAddsWithPx70
import Derived.Test.YtcilbmbgdcepgaaZFnExactAddsWith0
import Derived.Test.YtcilbmbgdcepgaaYFnExactAddsWithPx46
namespace Go.Proofs.Ytcilbmbgdcepgaa.P
open Go.RowKit YtcilbmbgdcepgaaW.PrintWords YtcilbmbgdcepgaaW.PrintLast YtcilbmbgdcepgaaW.PrintMore Own A
set_option linter.unusedVariables false
set_option linter.unusedSimpArgs false
/-! ### spec_AddsWith: function 40 -/
def spec_AddsWith.f (k : Nat) (a0_0 : Int) (a0_1 : Int) (l0_2 : List (S71)) (a1 : Int) (l2 : List Int) : Option (Int × Bool) := if l0_2.length ≤ maxLen then some (resAW a0_0 a0_1 l0_2 a1 l2) else none
theorem spec_AddsWith.mono : ∀ a0 a1 a2 a3 a4 k, LeO (spec_AddsWith.f k a0 a1 a2 a3 a4) (spec_AddsWith.f (k + 1) a0 a1 a2 a3 a4) := fun _ _ _ _ _ _ _ h => h
set_option maxHeartbeats 8000000 in
set_option maxRecDepth 100000 in
theorem spec_AddsWith.calls (k : Nat) (a0_0 : Int) (a0_1 : Int) (A0_2 : Option Addr) (c0_2 : Nat) (l0_2 : List (S71)) (a1 : Int) (A2 : Option Addr) (c2 : Nat) (l2 : List Int) (r1 : Int) (r2 : Bool) (w : World) (hr0_2 : Kd.C k71 w A0_2 l0_2.length l0_2) (hc0_2 : l0_2.length ≤ c0_2) (hr2 : Kd.C (Kd.int .i64) w A2 l2.length l2) (hc2 : l2.length ≤ c2) (h : spec_AddsWith.f k a0_0 a0_1 l0_2 a1 l2 = some (r1, r2)) :
  Calls Try.prog 40 #[.agg #[.int .i64 a0_0, .int .i64 a0_1, .slice A0_2 l0_2.length c0_2], .int .i64 a1, .slice A2 l2.length c2] w fun e w' => e = .returned (.tuple #[.int .i64 r1, .bool r2]) ∧ Below w.heap.size w w' := by
 have hu24 := Try.underlying24
 have hu81 := Try.underlying81
 have hu39 := Try.underlying39
 unfold spec_AddsWith.f at h
 by_cases hk : l0_2.length ≤ maxLen
 case neg => rw [if_neg hk] at h; simp at h
 rw [if_pos hk] at h
 replace h := Option.some.inj h
 unfold resAW at h
 have HC := Aside0.mk hr0_2
 have HCC := Aside0.mk hc0_2
 have H2 := Aside0.mk hr2
 have HC2 := Aside0.mk hc2
 have BA := Aside0.mk (blk_new w (.cells #[.int .i64 a0_0, .int .i64 a0_1, .slice A0_2 l0_2.length c0_2] 24))
 have HB := Aside0.mk (below_alloc (Below.refl w.heap.size w) (.cells #[.int .i64 a0_0, .int .i64 a0_1, .slice A0_2 l0_2.length c0_2] 24))
 obtain ⟨KH, hKH⟩ := flHas a0_0 a0_1 l0_2 a1 hk
 have HH0 := hKH KH (Nat.le_refl _)
 obtain ⟨KS, hKS⟩ := bcChosen a0_0 a0_1 l0_2 l2 hk
 have HS0 := hKS KS (Nat.le_refl _)
 clear hr0_2 hc0_2 hr2 hc2 hk hKH hKS
 go_enter Try.func40, Try.ntmps40
 by_cases hch : ChoOk a0_0 a0_1 l0_2 l2
 case neg =>
  rw [if_neg (fun h_ : CarOk a0_0 a0_1 l0_2 a1 l2 => hch h_.1)] at h
  rw [decide_eq_false hch] at HS0
  have HS := Aside0.mk HS0
  cases h
  clear HS0 hch HH0
  go_wp2_with (first | (go_at_call 59; (with_reducible refine (spec_bcChosen.calls KS _ _ _ _ l0_2 _ _ l2 false _ (Kd.C_below HC.out HB.out) HCC.out (Kd.C_below H2.out HB.out) HC2.out HS.out).mono ?_); rintro e w2 ⟨rfl, hb⟩; have B2 := Aside0.mk (blk_below BA.out hb); have HB2 := Aside0.mk (below_step HB.out hb); clear hb HB BA; have x0 := (blk_cell B2.out 0).trans rfl; have x1 := (blk_cell B2.out 1).trans rfl; have x2 := (blk_cell B2.out 2).trans rfl) | fail)
  go_ret2
  exact ⟨rfl, HB2.out⟩
 rw [decide_eq_true hch] at HS0
 have HS := Aside0.mk HS0
 clear HS0
 by_cases hv : 0 ≤ a1 ∧ a1 < a0_1
 case neg =>
  rw [if_neg (fun h_ : CarOk a0_0 a0_1 l0_2 a1 l2 => hv h_.2)] at h
  rw [decide_eq_false (fun h_ : BoOk a0_0 a0_1 l0_2 ∧ 0 ≤ a1 ∧ a1 < a0_1 => hv h_.2)] at HH0
  have HH := Aside0.mk HH0
  cases h
  clear HH0 hv hch
  go_wp2_with (first | (go_at_call 59; (with_reducible refine (spec_bcChosen.calls KS _ _ _ _ l0_2 _ _ l2 true _ (Kd.C_below HC.out HB.out) HCC.out (Kd.C_below H2.out HB.out) HC2.out HS.out).mono ?_); rintro e w2 ⟨rfl, hb⟩; have B2 := Aside0.mk (blk_below BA.out hb); have HB2 := Aside0.mk (below_step HB.out hb); clear hb HB BA; have x0 := (blk_cell B2.out 0).trans rfl; have x1 := (blk_cell B2.out 1).trans rfl; have x2 := (blk_cell B2.out 2).trans rfl) | (go_at_call 71; (with_reducible refine (spec_flHas.calls KH _ _ _ _ l0_2 _ false _ (Kd.C_below HC.out HB2.out) HCC.out HH.out).mono ?_); rintro e w3 ⟨rfl, hb⟩; have B3 := Aside0.mk (blk_below B2.out hb); have HB3 := Aside0.mk (below_step HB2.out hb); clear hb HB2 B2 x0 x1 x2; have x0 := (blk_cell B3.out 0).trans rfl; have x1 := (blk_cell B3.out 1).trans rfl; have x2 := (blk_cell B3.out 2).trans rfl) | fail)
  go_ret2
  exact ⟨rfl, HB3.out⟩
 rw [if_pos (show CarOk a0_0 a0_1 l0_2 a1 l2 from ⟨hch, hv⟩)] at h
 rw [decide_eq_true (show BoOk a0_0 a0_1 l0_2 ∧ 0 ≤ a1 ∧ a1 < a0_1 from ⟨hch.1, hv⟩)] at HH0
 have HH := Aside0.mk HH0
 clear HH0
 obtain ⟨hn1, hn5⟩ := hch.len
 obtain ⟨n, hn⟩ : ∃ n, n = l2.length := ⟨_, rfl⟩
 obtain ⟨N, hN⟩ : ∃ N : Nat, N = 2 ^ l2.length := ⟨_, rfl⟩
 have hN2 : 2 ≤ N ∧ N ≤ 32 := by rw [hN]; exact pow5 ⟨hn1, hn5⟩
 have es1 : IntKind.i64.wrap (2 ^ min l2.length 64) = (N : Int) := by rw [hN, Nat.min_eq_left (by omega)]; exact (pw5 ⟨hn1, hn5⟩).1
 have es2 := (i64_w _).symm.trans es1
 have eu : IntKind.u64.wrap (l2.length : Int) = (l2.length : Int) := (pw5 ⟨hn1, hn5⟩).2
 rw [← hN] at h
 have HCH := Aside0.mk hch
 have HVV := Aside0.mk hv
 have HNE := Aside0.mk hN
 have HN2 := Aside0.mk hN2
 have hQ := h
 have HQ0 := Aside0.mk hQ
 clear hQ hch hv hn hN hn1 hn5 hN2 h
 go_wp2_with (first | (go_at_call 59; (with_reducible refine (spec_bcChosen.calls KS _ _ _ _ l0_2 _ _ l2 true _ (Kd.C_below HC.out HB.out) HCC.out (Kd.C_below H2.out HB.out) HC2.out HS.out).mono ?_); rintro e w2 ⟨rfl, hb⟩; have B2 := Aside0.mk (blk_below BA.out hb); have HB2 := Aside0.mk (below_step HB.out hb); clear hb HB BA; have x0 := (blk_cell B2.out 0).trans rfl; have x1 := (blk_cell B2.out 1).trans rfl; have x2 := (blk_cell B2.out 2).trans rfl) | (go_at_call 71; (with_reducible refine (spec_flHas.calls KH _ _ _ _ l0_2 _ true _ (Kd.C_below HC.out HB2.out) HCC.out HH.out).mono ?_); rintro e w3 ⟨rfl, hb⟩; have B3 := Aside0.mk (blk_below B2.out hb); have HB3 := Aside0.mk (below_step HB2.out hb); clear hb HB2 B2 x0 x1 x2; have x0 := (blk_cell B3.out 0).trans rfl; have x1 := (blk_cell B3.out 1).trans rfl; have x2 := (blk_cell B3.out 2).trans rfl) | fail)
 go_loopw [9, 10] (fun v9 v10 wr => ∃ (i : Nat) (a : Int), v10 = .int .i64 i ∧ v9 = .int .i64 a ∧ i ≤ N ∧ (-1 ≤ a ∧ a ≤ 32) ∧ Aside0 (addGo a0_0 a0_1 l0_2 a1 l2 (N - i) i a = (r1, r2)) ∧ Aside0 (wr.heap[w.heap.size]? = some (.cells #[.int .i64 a0_0, .int .i64 a0_1, .slice A0_2 l0_2.length c0_2] 24 (0, 0))) ∧ Aside0 (Below w.heap.size w wr)) (fun _ i _ => N - (intOf i).toNat)
 case atStart => exact ⟨0, -1, rfl, rfl, Nat.zero_le _, by omega, HQ0, B3, HB3⟩
 case round =>
  clear B3 HB3 HQ0 x0 x1 x2
  obtain ⟨i, a, rfl, rfl, hi, ha, HQ, B, HB⟩ := hrel
  have x0 := (blk_cell B.out 0).trans rfl
  have x1 := (blk_cell B.out 1).trans rfl
  have x2 := (blk_cell B.out 2).trans rfl
  have hN2 := HN2.out
  by_cases hil : i < N
  ·have hd : decide ((i : Int) < (N : Int)) = true := decide_eq_true (by omega)
   have hN2 := HN2.out
   have hiv : i < 2 ^ l2.length := by rw [← HNE.out]; exact hil
   have hbo := withGo_ok HCH.out hiv
   obtain ⟨KW, hKW⟩ := bcWith a0_0 a0_1 (i : Int) l2 l0_2 HCH.out.len.2 HCH.out.1.len HCH.out.mem
   have HW := Aside0.mk (hKW KW (Nat.le_refl _))
   obtain ⟨lw, hlw⟩ : ∃ lw, lw = withGo (i : Int) 0 l2 l0_2 := ⟨_, rfl⟩
   rw [← hlw] at HW hbo
   obtain ⟨p, hp⟩ : ∃ p, p = fallV a0_0 a0_1 l0_2 a1 l2 i := ⟨_, rfl⟩
   have hp2 : p = fallL a0_0.toNat a0_1.toNat lw a1 := by rw [hp, hlw]; rfl
   have FR : Aside0 (spec_flRun.f 0 a0_0 a0_1 lw a1 = some (p.1.1, p.1.2.1, p.1.2.2, a0_0, a0_1, p.2)) := ⟨by unfold spec_flRun.f; rw [if_pos (show FallFit a0_0 a0_1 lw a1 from ⟨hbo, HVV.out⟩), ← hp2]⟩
   have hbd := dV_bd (col := a1) HCH.out hiv
   have hbo2 := fallV_ok (col := a1) HCH.out hiv
   rw [← hp] at hbd hbo2
   obtain ⟨d, hd0⟩ : ∃ d, d = dV a0_0 a0_1 l0_2 a1 l2 i := ⟨_, rfl⟩
   rw [← hd0] at hbd
   have hq := HQ.out
   rw [show N - i = (N - (i + 1)) + 1 by omega] at hq
   unfold addGo at hq
   rw [← hd0] at hq
   have hdd := hd0
   unfold dV at hdd
   rw [← hp, ← HNE.out] at hdd
   obtain ⟨⟨q1, q2, q3⟩, cs⟩ := p
   simp only at FR hq hbd hbo2 hdd
   obtain ⟨KR, hKR⟩ := bcRead a0_0 a0_1 cs hbo2 l2 HCH.out.len.2 (fun x hx => by rw [show cs.length = l0_2.length from Int.ofNat.inj (by rw [Int.ofNat_eq_natCast, Int.ofNat_eq_natCast, hbo2.2.2.1, HCH.out.1.2.2.1])]; exact HCH.out.mem x hx)
   have HRD := Aside0.mk (hKR KR (Nat.le_refl _))
   obtain ⟨vb, hvb⟩ : ∃ vb, vb = VB (bitF cs l2) l2.length := ⟨_, rfl⟩
   rw [← hvb] at HRD hbd hdd
   obtain ⟨s1, hs1⟩ : ∃ s1, s1 = vb - (i : Int) := ⟨_, rfl⟩
   obtain ⟨s2, hs2⟩ : ∃ s2, s2 = s1 + (N : Int) := ⟨_, rfl⟩
   have ev1 : IntKind.i64.wrap (vb - (i : Int)) = s1 := (IntWalk.i64_in _ (by omega)).trans hs1.symm
   have ew1 := (i64_w _).symm.trans ev1
   have ev2 : IntKind.i64.wrap (s1 + (N : Int)) = s2 := (IntWalk.i64_in _ (by clear ev1 ew1; omega)).trans hs2.symm
   have ew2 := (i64_w _).symm.trans ev2
   rw [← hs1, ← hs2] at hdd
   have ev3 : Int.tmod s2 (N : Int) = d := hdd.symm
   have ev4 : IntKind.i64.wrap d = d := IntWalk.i64_in _ (by clear ev1 ew1 ev2 ew2; omega)
   have ew4 := (i64_w _).symm.trans ev4
   have hN0 : ¬ ((N : Int) = 0) := by clear ev1 ew1 ev2 ew2 ew4 ev4; omega
   have HBD := Aside0.mk hbd
   have HA := Aside0.mk ha
   have HQ0 := Aside0.mk hq
   clear hq hp hp2 hlw hbo hiv hKW HQ hKR hvb hs1 hs2 hdd hd0 hbo2 hbd ha
   by_cases h0 : 0 ≤ a
   case neg =>
    have hq := HQ0.out
    rw [if_neg (fun h_ => h0 h_.1)] at hq
    have d0 : decide (0 ≤ a) = false := decide_eq_false h0
    clear h0
    have HQ := Aside0.mk hq
    clear hq HQ0
    go_wp2_with (first | (go_at_call 64; (with_reducible refine (spec_bcWith.calls KW _ _ _ _ l0_2 _ _ l2 _ _ _ lw _ (Kd.C_below HC.out HB.out) HCC.out (Kd.C_below H2.out HB.out) HC2.out HW.out).mono ?_); rintro e w4 ⟨vw, rfl, hR, hb⟩; obtain ⟨Aw, cw, ew⟩ := Kd.R_slice hR; subst ew; have B4 := Aside0.mk (blk_below B.out hb); have HB4 := Aside0.mk (below_step HB.out hb); have HWR := Aside0.mk (Kd.R_reads' hR); clear hb hR HB B x0 x1 x2) | (go_at_call 72; (with_reducible refine (spec_flRun.calls 0 _ _ _ _ lw _ q1 q2 q3 _ _ cs _ HWR.out.2.2 HWR.out.2.1 FR.out).mono ?_); rintro e w6 ⟨v, rfl, hR, hb⟩; obtain ⟨Av, cv, ev⟩ := Kd.R_slice hR; subst ev; have B6 := Aside0.mk (blk_below B4.out hb); have HB6 := Aside0.mk (below_step HB4.out hb); have HX6 := Aside0.mk (Kd.R_reads' hR); clear hb hR HB4 B4 HWR) | (go_at_call 60; (with_reducible refine (spec_bcRead.calls KR _ _ _ _ cs _ _ l2 _ _ (Kd.C_below HX6.out.2.2 Own.bel) HX6.out.2.1 (Kd.C_below H2.out (below_step HB6.out Own.bel)) HC2.out HRD.out).mono ?_); rintro e w9 ⟨rfl, hb⟩; have B9 := Aside0.mk (blk_below (blk_below B6.out Own.bel) hb); have HB9 := Aside0.mk (below_step (below_step HB6.out Own.bel) hb); clear hb B6 HB6) | fail)
    go_roundw
    case rel => first | exact ⟨i + 1, d, by go_num, rfl, by omega, by have := HBD.out; omega, HQ, B9, HB9⟩ | ((repeat apply Exists.intro); exact ⟨⟨i + 1, d, by go_num, rfl, by omega, by have := HBD.out; omega, HQ, B9, HB9⟩, rfl⟩)
    case measure => simp [intOf]; omega
   have d0 : decide (0 ≤ a) = true := decide_eq_true h0
   by_cases h1 : a = d
   case pos =>
    have hq := HQ0.out
    rw [if_neg (fun h_ => h_.2 h1)] at hq
    subst h1
    clear h0
    have HQ := Aside0.mk hq
    clear hq HQ0
    go_wp2_with (first | (go_at_call 64; (with_reducible refine (spec_bcWith.calls KW _ _ _ _ l0_2 _ _ l2 _ _ _ lw _ (Kd.C_below HC.out HB.out) HCC.out (Kd.C_below H2.out HB.out) HC2.out HW.out).mono ?_); rintro e w4 ⟨vw, rfl, hR, hb⟩; obtain ⟨Aw, cw, ew⟩ := Kd.R_slice hR; subst ew; have B4 := Aside0.mk (blk_below B.out hb); have HB4 := Aside0.mk (below_step HB.out hb); have HWR := Aside0.mk (Kd.R_reads' hR); clear hb hR HB B x0 x1 x2) | (go_at_call 72; (with_reducible refine (spec_flRun.calls 0 _ _ _ _ lw _ q1 q2 q3 _ _ cs _ HWR.out.2.2 HWR.out.2.1 FR.out).mono ?_); rintro e w6 ⟨v, rfl, hR, hb⟩; obtain ⟨Av, cv, ev⟩ := Kd.R_slice hR; subst ev; have B6 := Aside0.mk (blk_below B4.out hb); have HB6 := Aside0.mk (below_step HB4.out hb); have HX6 := Aside0.mk (Kd.R_reads' hR); clear hb hR HB4 B4 HWR) | (go_at_call 60; (with_reducible refine (spec_bcRead.calls KR _ _ _ _ cs _ _ l2 _ _ (Kd.C_below HX6.out.2.2 Own.bel) HX6.out.2.1 (Kd.C_below H2.out (below_step HB6.out Own.bel)) HC2.out HRD.out).mono ?_); rintro e w9 ⟨rfl, hb⟩; have B9 := Aside0.mk (blk_below (blk_below B6.out Own.bel) hb); have HB9 := Aside0.mk (below_step (below_step HB6.out Own.bel) hb); clear hb B6 HB6) | fail)
    go_roundw
    case rel => first | exact ⟨i + 1, a, by go_num, rfl, by omega, by have := HBD.out; omega, HQ, B9, HB9⟩ | ((repeat apply Exists.intro); exact ⟨⟨i + 1, a, by go_num, rfl, by omega, by have := HBD.out; omega, HQ, B9, HB9⟩, rfl⟩)
    case measure => simp [intOf]; omega
   have hq := HQ0.out
   rw [if_pos ⟨h0, h1⟩] at hq
   cases hq
   have b1 : (a != d) = true := by simp [h1]
   have b2 : (a == d) = false := beq_false_of_ne h1
   clear HQ0 h0
   go_wp2_with (first | (go_at_call 64; (with_reducible refine (spec_bcWith.calls KW _ _ _ _ l0_2 _ _ l2 _ _ _ lw _ (Kd.C_below HC.out HB.out) HCC.out (Kd.C_below H2.out HB.out) HC2.out HW.out).mono ?_); rintro e w4 ⟨vw, rfl, hR, hb⟩; obtain ⟨Aw, cw, ew⟩ := Kd.R_slice hR; subst ew; have B4 := Aside0.mk (blk_below B.out hb); have HB4 := Aside0.mk (below_step HB.out hb); have HWR := Aside0.mk (Kd.R_reads' hR); clear hb hR HB B x0 x1 x2) | (go_at_call 72; (with_reducible refine (spec_flRun.calls 0 _ _ _ _ lw _ q1 q2 q3 _ _ cs _ HWR.out.2.2 HWR.out.2.1 FR.out).mono ?_); rintro e w6 ⟨v, rfl, hR, hb⟩; obtain ⟨Av, cv, ev⟩ := Kd.R_slice hR; subst ev; have B6 := Aside0.mk (blk_below B4.out hb); have HB6 := Aside0.mk (below_step HB4.out hb); have HX6 := Aside0.mk (Kd.R_reads' hR); clear hb hR HB4 B4 HWR) | (go_at_call 60; (with_reducible refine (spec_bcRead.calls KR _ _ _ _ cs _ _ l2 _ _ (Kd.C_below HX6.out.2.2 Own.bel) HX6.out.2.1 (Kd.C_below H2.out (below_step HB6.out Own.bel)) HC2.out HRD.out).mono ?_); rintro e w9 ⟨rfl, hb⟩; have B9 := Aside0.mk (blk_below (blk_below B6.out Own.bel) hb); have HB9 := Aside0.mk (below_step (below_step HB6.out Own.bel) hb); clear hb B6 HB6) | fail)
   go_ret2
   exact ⟨rfl, HB9.out⟩
  ·have hd : decide ((i : Int) < (N : Int)) = false := decide_eq_false (by omega)
   obtain rfl : i = N := by omega
   have hq := HQ.out
   rw [Nat.sub_self] at hq
   unfold addGo at hq
   cases hq
   go_wp2
   go_ret2
   exact ⟨rfl, HB.out⟩
end Go.Proofs.Ytcilbmbgdcepgaa.P
