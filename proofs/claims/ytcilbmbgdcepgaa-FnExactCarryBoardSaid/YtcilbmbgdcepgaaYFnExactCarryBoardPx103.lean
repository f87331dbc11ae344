/- The walk of spec.CarryBoard (printed by gen_cw.py). -/
import Derived.Test.YtcilbmbgdcepgaaYFnExactCarryBoardACar
import Derived.Test.YtcilbmbgdcepgaaYFnExactCarryBoardAEn
import Derived.Test.YtcilbmbgdcepgaaOwnW
import Derived.IntWalk
import Derived.Test.YtcilbmbgdcepgaaYFnExactCarryBoardPx79
import Derived.Test.YtcilbmbgdcepgaaYFnExactCarryBoardPx70
import Derived.Test.YtcilbmbgdcepgaaZFnExactCarryBoard0
namespace Go.Proofs.Ytcilbmbgdcepgaa.P
open Go.RowKit YtcilbmbgdcepgaaW.PrintWords YtcilbmbgdcepgaaW.PrintLast YtcilbmbgdcepgaaW.PrintMore Own A
set_option linter.unusedVariables false
set_option linter.unusedSimpArgs false
/-! ### spec_CarryBoard: function 42 -/
def spec_CarryBoard.f (k : Nat) (a0_0 : Int) (a0_1 : Int) (l0_2 : List (S71)) (a1 : Int) (l2 : List Int) : Option (List Int × Bool) := if l0_2.length ≤ maxLen then some (resCB a0_0 a0_1 l0_2 a1 l2) else none
theorem spec_CarryBoard.mono : ∀ a0 a1 a2 a3 a4 k, LeO (spec_CarryBoard.f k a0 a1 a2 a3 a4) (spec_CarryBoard.f (k + 1) a0 a1 a2 a3 a4) := fun _ _ _ _ _ _ _ h => h
set_option maxHeartbeats 8000000 in
set_option maxRecDepth 100000 in
theorem spec_CarryBoard.calls (k : Nat) (a0_0 : Int) (a0_1 : Int) (A0_2 : Option Addr) (c0_2 : Nat) (l0_2 : List (S71)) (a1 : Int) (A2 : Option Addr) (c2 : Nat) (l2 : List Int) (r1 : List Int) (r2 : Bool) (w : World) (hr0_2 : Kd.C k71 w A0_2 l0_2.length l0_2) (hc0_2 : l0_2.length ≤ c0_2) (hr2 : Kd.C (Kd.int .i64) w A2 l2.length l2) (hc2 : l2.length ≤ c2) (h : spec_CarryBoard.f k a0_0 a0_1 l0_2 a1 l2 = some (r1, r2)) :
  Calls Try.prog 42 #[.agg #[.int .i64 a0_0, .int .i64 a0_1, .slice A0_2 l0_2.length c0_2], .int .i64 a1, .slice A2 l2.length c2] w fun e w' => ∃ v0_ : Value, e = .returned (.tuple #[v0_, .bool r2]) ∧ Kd.R (Kd.int .i64) 3 w' w.heap.size (fun _ => True) v0_ r1 ∧ Below w.heap.size w w' := by
 have hu24 := Try.underlying24
 have hu81 := Try.underlying81
 have hu39 := Try.underlying39
 unfold spec_CarryBoard.f at h
 by_cases hk : l0_2.length ≤ maxLen
 case neg => rw [if_neg hk] at h; simp at h
 rw [if_pos hk] at h
 replace h := Option.some.inj h
 unfold resCB at h
 have HC := Aside0.mk hr0_2
 have HCC := Aside0.mk hc0_2
 have H2 := Aside0.mk hr2
 have HC2 := Aside0.mk hc2
 have BA := Aside0.mk (blk_new w (.cells #[.int .i64 a0_0, .int .i64 a0_1, .slice A0_2 l0_2.length c0_2] 24))
 have HB := Aside0.mk (below_alloc (Below.refl w.heap.size w) (.cells #[.int .i64 a0_0, .int .i64 a0_1, .slice A0_2 l0_2.length c0_2] 24))
 obtain ⟨KH, hKH⟩ := flHas a0_0 a0_1 l0_2 a1 hk
 have HH0 := hKH KH (Nat.le_refl _)
 obtain ⟨KS, hKS⟩ := bcChosen a0_0 a0_1 l0_2 l2 hk
 have HS0 := hKS KS (Nat.le_refl _)
 clear hr0_2 hc0_2 hr2 hc2 hk hKH hKS
 go_enter Try.func42, Try.ntmps42
 by_cases hch : ChoOk a0_0 a0_1 l0_2 l2
 case neg =>
  rw [if_neg (fun h_ : CarOk a0_0 a0_1 l0_2 a1 l2 => hch h_.1)] at h
  rw [decide_eq_false hch] at HS0
  have HS := Aside0.mk HS0
  cases h
  clear HS0 hch HH0
  go_wp2_with (first | (go_at_call 59; (with_reducible refine (spec_bcChosen.calls KS _ _ _ _ l0_2 _ _ l2 false _ (Kd.C_below HC.out HB.out) HCC.out (Kd.C_below H2.out HB.out) HC2.out HS.out).mono ?_); rintro e w2 ⟨rfl, hb⟩; have B2 := Aside0.mk (blk_below BA.out hb); have HB2 := Aside0.mk (below_step HB.out hb); clear hb HB BA; have x0 := (blk_cell B2.out 0).trans rfl; have x1 := (blk_cell B2.out 1).trans rfl; have x2 := (blk_cell B2.out 2).trans rfl) | fail)
  go_ret2
  exact ⟨_, rfl, Kd.R_nil _ _ _ _ _, HB2.out⟩
 rw [decide_eq_true hch] at HS0
 have HS := Aside0.mk HS0
 clear HS0
 by_cases hv : 0 ≤ a1 ∧ a1 < a0_1
 case neg =>
  rw [if_neg (fun h_ : CarOk a0_0 a0_1 l0_2 a1 l2 => hv h_.2)] at h
  rw [decide_eq_false (fun h_ : BoOk a0_0 a0_1 l0_2 ∧ 0 ≤ a1 ∧ a1 < a0_1 => hv h_.2)] at HH0
  have HH := Aside0.mk HH0
  cases h
  clear HH0 hv hch
  go_wp2_with (first | (go_at_call 59; (with_reducible refine (spec_bcChosen.calls KS _ _ _ _ l0_2 _ _ l2 true _ (Kd.C_below HC.out HB.out) HCC.out (Kd.C_below H2.out HB.out) HC2.out HS.out).mono ?_); rintro e w2 ⟨rfl, hb⟩; have B2 := Aside0.mk (blk_below BA.out hb); have HB2 := Aside0.mk (below_step HB.out hb); clear hb HB BA; have x0 := (blk_cell B2.out 0).trans rfl; have x1 := (blk_cell B2.out 1).trans rfl; have x2 := (blk_cell B2.out 2).trans rfl) | (go_at_call 71; (with_reducible refine (spec_flHas.calls KH _ _ _ _ l0_2 _ false _ (Kd.C_below HC.out HB2.out) HCC.out HH.out).mono ?_); rintro e w3 ⟨rfl, hb⟩; have B3 := Aside0.mk (blk_below B2.out hb); have HB3 := Aside0.mk (below_step HB2.out hb); clear hb HB2 B2 x0 x1 x2; have x0 := (blk_cell B3.out 0).trans rfl; have x1 := (blk_cell B3.out 1).trans rfl; have x2 := (blk_cell B3.out 2).trans rfl) | fail)
  go_ret2
  exact ⟨_, rfl, Kd.R_nil _ _ _ _ _, HB3.out⟩
 rw [if_pos (show CarOk a0_0 a0_1 l0_2 a1 l2 from ⟨hch, hv⟩)] at h
 rw [decide_eq_true (show BoOk a0_0 a0_1 l0_2 ∧ 0 ≤ a1 ∧ a1 < a0_1 from ⟨hch.1, hv⟩)] at HH0
 have HH := Aside0.mk HH0
 clear HH0
 obtain ⟨hn1, hn5⟩ := hch.len
 obtain ⟨n, hn⟩ : ∃ n, n = l2.length := ⟨_, rfl⟩
 obtain ⟨N, hN⟩ : ∃ N : Nat, N = 2 ^ l2.length := ⟨_, rfl⟩
 have hN2 : 2 ≤ N ∧ N ≤ 32 := by rw [hN]; exact pow5 ⟨hn1, hn5⟩
 have es1 : IntKind.i64.wrap (2 ^ min l2.length 64) = (N : Int) := by rw [hN, Nat.min_eq_left (by omega)]; exact (pw5 ⟨hn1, hn5⟩).1
 have es2 := (i64_w _).symm.trans es1
 have eu : IntKind.u64.wrap (l2.length : Int) = (l2.length : Int) := (pw5 ⟨hn1, hn5⟩).2
 rw [← hN] at h
 have HCH := Aside0.mk hch
 have HVV := Aside0.mk hv
 have HNE := Aside0.mk hN
 have HN2 := Aside0.mk hN2
 obtain ⟨Q, hQ⟩ : ∃ Q, Q = carGo a0_0 a0_1 l0_2 a1 l2 N 0 [] := ⟨_, rfl⟩
 rw [← hQ] at h
 cases h
 have HQ0 := Aside0.mk hQ
 clear hQ hch hv hn hN hn1 hn5 hN2
 go_wp2_with (first | (go_at_call 59; (with_reducible refine (spec_bcChosen.calls KS _ _ _ _ l0_2 _ _ l2 true _ (Kd.C_below HC.out HB.out) HCC.out (Kd.C_below H2.out HB.out) HC2.out HS.out).mono ?_); rintro e w2 ⟨rfl, hb⟩; have B2 := Aside0.mk (blk_below BA.out hb); have HB2 := Aside0.mk (below_step HB.out hb); clear hb HB BA; have x0 := (blk_cell B2.out 0).trans rfl; have x1 := (blk_cell B2.out 1).trans rfl; have x2 := (blk_cell B2.out 2).trans rfl) | (go_at_call 71; (with_reducible refine (spec_flHas.calls KH _ _ _ _ l0_2 _ true _ (Kd.C_below HC.out HB2.out) HCC.out HH.out).mono ?_); rintro e w3 ⟨rfl, hb⟩; have B3 := Aside0.mk (blk_below B2.out hb); have HB3 := Aside0.mk (below_step HB2.out hb); clear hb HB2 B2 x0 x1 x2; have x0 := (blk_cell B3.out 0).trans rfl; have x1 := (blk_cell B3.out 1).trans rfl; have x2 := (blk_cell B3.out 2).trans rfl) | fail)
 go_loopw [8, 9] (fun v8 v9 wr => ∃ (i : Nat) (acc : List Int), v9 = .int .i64 i ∧ i ≤ N ∧ acc.length ≤ i ∧ Aside0 (carGo a0_0 a0_1 l0_2 a1 l2 (N - i) i acc = r1) ∧ Aside0 (Kd.R (Kd.int .i64) 3 wr w.heap.size (fun _ => True) v8 acc) ∧ Aside0 (wr.heap[w.heap.size]? = some (.cells #[.int .i64 a0_0, .int .i64 a0_1, .slice A0_2 l0_2.length c0_2] 24 (0, 0))) ∧ Aside0 (Below w.heap.size w wr)) (fun _ i _ => N - (intOf i).toNat)
 case atStart => exact ⟨0, [], rfl, Nat.zero_le _, Nat.le_refl _, ⟨HQ0.out.symm⟩, ⟨Kd.R_nil _ _ _ _ _⟩, B3, HB3⟩
 case round =>
  clear B3 HB3 HQ0 x0 x1 x2
  obtain ⟨i, acc, rfl, hi, hal, HQ, HV, B, HB⟩ := hrel
  obtain ⟨Ar, cr, er⟩ := Kd.R_slice HV.out
  subst er
  have x0 := (blk_cell B.out 0).trans rfl
  have x1 := (blk_cell B.out 1).trans rfl
  have x2 := (blk_cell B.out 2).trans rfl
  have hN2 := HN2.out
  by_cases hil : i < N
  ·have hd : decide ((i : Int) < (N : Int)) = true := decide_eq_true (by omega)
   have hN2 := HN2.out
   have hiv : i < 2 ^ l2.length := by rw [← HNE.out]; exact hil
   have hbo := withGo_ok HCH.out hiv
   obtain ⟨KW, hKW⟩ := bcWith a0_0 a0_1 (i : Int) l2 l0_2 HCH.out.len.2 HCH.out.1.len HCH.out.mem
   have HW := Aside0.mk (hKW KW (Nat.le_refl _))
   obtain ⟨lw, hlw⟩ : ∃ lw, lw = withGo (i : Int) 0 l2 l0_2 := ⟨_, rfl⟩
   rw [← hlw] at HW hbo
   obtain ⟨p, hp⟩ : ∃ p, p = fallV a0_0 a0_1 l0_2 a1 l2 i := ⟨_, rfl⟩
   have hp2 : p = fallL a0_0.toNat a0_1.toNat lw a1 := by rw [hp, hlw]; rfl
   have FR : Aside0 (spec_flRun.f 0 a0_0 a0_1 lw a1 = some (p.1.1, p.1.2.1, p.1.2.2, a0_0, a0_1, p.2)) := ⟨by unfold spec_flRun.f; rw [if_pos (show FallFit a0_0 a0_1 lw a1 from ⟨hbo, HVV.out⟩), ← hp2]⟩
   have hq := HQ.out
   rw [show N - i = (N - (i + 1)) + 1 by omega] at hq
   unfold carGo at hq
   rw [← hp] at hq
   obtain ⟨⟨q1, q2, q3⟩, cs⟩ := p
   simp only at FR hq
   have HQ0 := Aside0.mk hq
   clear hq hp hp2 hlw hbo hiv hKW HQ
   by_cases h1 : q1 = 1
   case neg =>
    have hq := HQ0.out
    rw [if_neg (fun h_ => h1 h_.1)] at hq
    have HQ := Aside0.mk hq
    have b1 : (q1 == 1) = false := beq_false_of_ne h1
    clear hq HQ0 h1
    go_wp2_with (first | (go_at_call 64; (with_reducible refine (spec_bcWith.calls KW _ _ _ _ l0_2 _ _ l2 _ _ _ lw _ (Kd.C_below HC.out HB.out) HCC.out (Kd.C_below H2.out HB.out) HC2.out HW.out).mono ?_); rintro e w4 ⟨vw, rfl, hR, hb⟩; obtain ⟨Aw, cw, ew⟩ := Kd.R_slice hR; subst ew; have B4 := Aside0.mk (blk_below B.out hb); have HB4 := Aside0.mk (below_step HB.out hb); have HV4 := Aside0.mk (Kd.R_below HV.out hb); have HWR := Aside0.mk (Kd.R_reads' hR); clear hb hR HB B HV x0 x1 x2) | (go_at_call 72; (with_reducible refine (spec_flRun.calls 0 _ _ _ _ lw _ q1 q2 q3 _ _ cs _ HWR.out.2.2 HWR.out.2.1 FR.out).mono ?_); rintro e w6 ⟨v, rfl, hR, hb⟩; obtain ⟨Av, cv, ev⟩ := Kd.R_slice hR; subst ev; have B6 := Aside0.mk (blk_below B4.out hb); have HB6 := Aside0.mk (below_step HB4.out hb); have HV6 := Aside0.mk (Kd.R_below HV4.out hb); have HX6 := Aside0.mk (Kd.R_reads' hR); clear hb hR HB4 B4 HV4 HWR) | fail)
    go_roundw
    case rel => first | exact ⟨i + 1, acc, by go_num, by omega, by omega, HQ, ⟨Kd.R_below HV6.out Own.bel⟩, ⟨blk_below B6.out Own.bel⟩, ⟨below_step HB6.out Own.bel⟩⟩ | ((repeat apply Exists.intro); exact ⟨⟨i + 1, acc, by go_num, by omega, by omega, HQ, ⟨Kd.R_below HV6.out Own.bel⟩, ⟨blk_below B6.out Own.bel⟩, ⟨below_step HB6.out Own.bel⟩⟩, rfl⟩)
    case measure => simp [intOf]; omega
   subst h1
   by_cases h3 : q3 = a1
   case neg =>
    have hq := HQ0.out
    rw [if_neg (fun h_ => h3 h_.2)] at hq
    have HQ := Aside0.mk hq
    have b3 : (q3 == a1) = false := beq_false_of_ne h3
    clear hq HQ0 h3
    go_wp2_with (first | (go_at_call 64; (with_reducible refine (spec_bcWith.calls KW _ _ _ _ l0_2 _ _ l2 _ _ _ lw _ (Kd.C_below HC.out HB.out) HCC.out (Kd.C_below H2.out HB.out) HC2.out HW.out).mono ?_); rintro e w4 ⟨vw, rfl, hR, hb⟩; obtain ⟨Aw, cw, ew⟩ := Kd.R_slice hR; subst ew; have B4 := Aside0.mk (blk_below B.out hb); have HB4 := Aside0.mk (below_step HB.out hb); have HV4 := Aside0.mk (Kd.R_below HV.out hb); have HWR := Aside0.mk (Kd.R_reads' hR); clear hb hR HB B HV x0 x1 x2) | (go_at_call 72; (with_reducible refine (spec_flRun.calls 0 _ _ _ _ lw _ 1 q2 q3 _ _ cs _ HWR.out.2.2 HWR.out.2.1 FR.out).mono ?_); rintro e w6 ⟨v, rfl, hR, hb⟩; obtain ⟨Av, cv, ev⟩ := Kd.R_slice hR; subst ev; have B6 := Aside0.mk (blk_below B4.out hb); have HB6 := Aside0.mk (below_step HB4.out hb); have HV6 := Aside0.mk (Kd.R_below HV4.out hb); have HX6 := Aside0.mk (Kd.R_reads' hR); clear hb hR HB4 B4 HV4 HWR) | fail)
    go_roundw
    case rel => first | exact ⟨i + 1, acc, by go_num, by omega, by omega, HQ, ⟨Kd.R_below HV6.out Own.bel⟩, ⟨blk_below B6.out Own.bel⟩, ⟨below_step HB6.out Own.bel⟩⟩ | ((repeat apply Exists.intro); exact ⟨⟨i + 1, acc, by go_num, by omega, by omega, HQ, ⟨Kd.R_below HV6.out Own.bel⟩, ⟨blk_below B6.out Own.bel⟩, ⟨below_step HB6.out Own.bel⟩⟩, rfl⟩)
    case measure => simp [intOf]; omega
   have hq := HQ0.out
   rw [if_pos ⟨rfl, h3⟩] at hq
   have HQ := Aside0.mk hq
   have b3 : (q3 == a1) = true := by rw [h3]; simp
   clear hq HQ0 h3
   go_upto_if 47 with (first | (go_at_call 64; (with_reducible refine (spec_bcWith.calls KW _ _ _ _ l0_2 _ _ l2 _ _ _ lw _ (Kd.C_below HC.out HB.out) HCC.out (Kd.C_below H2.out HB.out) HC2.out HW.out).mono ?_); rintro e w4 ⟨vw, rfl, hR, hb⟩; obtain ⟨Aw, cw, ew⟩ := Kd.R_slice hR; subst ew; have B4 := Aside0.mk (blk_below B.out hb); have HB4 := Aside0.mk (below_step HB.out hb); have HV4 := Aside0.mk (Kd.R_below HV.out hb); have HWR := Aside0.mk (Kd.R_reads' hR); clear hb hR HB B HV x0 x1 x2) | (go_at_call 72; (with_reducible refine (spec_flRun.calls 0 _ _ _ _ lw _ 1 q2 q3 _ _ cs _ HWR.out.2.2 HWR.out.2.1 FR.out).mono ?_); rintro e w6 ⟨v, rfl, hR, hb⟩; obtain ⟨Av, cv, ev⟩ := Kd.R_slice hR; subst ev; have B6 := Aside0.mk (blk_below B4.out hb); have HB6 := Aside0.mk (below_step HB4.out hb); have HV6 := Aside0.mk (Kd.R_below HV4.out hb); have HX6 := Aside0.mk (Kd.R_reads' hR); clear hb hR HB4 B4 HV4 HWR) | fail)
   have hb7 : Below w6.heap.size w6 ((w6.alloc (.cells #[.int .i64 1, .int .i64 q2, .int .i64 q3] 81)).alloc (.cells #[.int .i64 a0_0, .int .i64 a0_1, .slice Av cs.length cv] 24)) := below_alloc (below_alloc (Below.refl _ _) _) _
   generalize ((w6.alloc (.cells #[.int .i64 1, .int .i64 q2, .int .i64 q3] 81)).alloc (.cells #[.int .i64 a0_0, .int .i64 a0_1, .slice Av cs.length cv] 24)) = w7 at hb7 ⊢
   have B7 := Aside0.mk (blk_below B6.out hb7)
   have HB7 := Aside0.mk (below_step HB6.out hb7)
   have HV7 := Aside0.mk (Kd.R_below HV6.out hb7)
   clear hb7 B6 HB6 HV6
   go_wp2_with (first
    | ((with_reducible refine gate_builtin (b := .append) (xs := #[.tmp 48, .tmp 50]) rfl ?_); at_builtin; refine Kd.R_append (Kd.int .i64) (w0 := w) w.heap.size rfl (.tmp 48) (.tmp 50) 39 3 (.int .i64 0) 8 rfl Try.underlying39 info3 rfl (by decide) (by decide) (.slice Ar acc.length cr) acc (i : Int) [.int .i64 (i : Int)] (fun _ => True) (fun _ => False) rfl rfl ?aP (fun _ hk => hk.elim) (fun _ _ => trivial) ?aO ?aB ?aS ?aL ?_; (case aP => exact rfl); (case aO => exact HV7.out); (case aB => exact HB7.out); (case aS => exact HB7.out.size); (case aL => exact Nat.le_trans (Nat.mul_le_mul_right 8 (Nat.succ_le_succ (Nat.le_trans hal (Nat.le_trans hi HN2.out.2)))) (by decide)); intro v9 w9 hS hb hg_ _; have HV9 := Aside0.mk hS; have B9 := Aside0.mk (blk_grown B7.out hg_ (Kd.R_ne HV7.out B7.out (by decide))); have HB9 := Aside0.mk hb; clear hS hb hg_)
    | fail)
   go_roundw
   case rel => first | exact ⟨i + 1, acc ++ [(i : Int)], by go_num, by omega, by simp; omega, HQ, HV9, B9, HB9⟩ | ((repeat apply Exists.intro); exact ⟨⟨i + 1, acc ++ [(i : Int)], by go_num, by omega, by simp; omega, HQ, HV9, B9, HB9⟩, rfl⟩)
   case measure => simp [intOf]; omega
  ·have hd : decide ((i : Int) < (N : Int)) = false := decide_eq_false (by omega)
   obtain rfl : i = N := by omega
   have hq := HQ.out
   rw [Nat.sub_self] at hq
   unfold carGo at hq
   subst hq
   go_wp2
   go_ret2
   exact ⟨_, rfl, HV.out, HB.out⟩
end Go.Proofs.Ytcilbmbgdcepgaa.P
