/- The walk of impl.CarryBoard (printed by gen_cw.py). -/
import Derived.Test.YtcilbmbgdcepgaaYFnExactCarryBoardACar
import Derived.Test.YtcilbmbgdcepgaaYFnExactCarryBoardAValid
import Derived.Test.YtcilbmbgdcepgaaYFnExactCarryBoardAFall
import Derived.Test.YtcilbmbgdcepgaaOwnW
import Derived.IntWalk
import Derived.Test.YtcilbmbgdcepgaaYFnExactCarryBoardPx84
import Derived.Test.YtcilbmbgdcepgaaYFnExactCarryBoardPx87
import Derived.Test.YtcilbmbgdcepgaaYFnExactCarryBoardPx81
import Derived.Test.YtcilbmbgdcepgaaZFnExactCarryBoard0
namespace Go.Proofs.Ytcilbmbgdcepgaa.P
open Go.RowKit YtcilbmbgdcepgaaW.PrintWords YtcilbmbgdcepgaaW.PrintLast YtcilbmbgdcepgaaW.PrintMore Own A
set_option linter.unusedVariables false
set_option linter.unusedSimpArgs false
/-! ### impl_CarryBoard: function 43 -/
def impl_CarryBoard.f (k : Nat) (a0_0 : Int) (a0_1 : Int) (l0_2 : List (S71)) (a1 : Int) (l2 : List Int) : Option (List Int × Bool) := if l0_2.length ≤ maxLen then some (resCB a0_0 a0_1 l0_2 a1 l2) else none
theorem impl_CarryBoard.mono : ∀ a0 a1 a2 a3 a4 k, LeO (impl_CarryBoard.f k a0 a1 a2 a3 a4) (impl_CarryBoard.f (k + 1) a0 a1 a2 a3 a4) := fun _ _ _ _ _ _ _ h => h
set_option maxHeartbeats 8000000 in
set_option maxRecDepth 100000 in
theorem impl_CarryBoard.calls (k : Nat) (a0_0 : Int) (a0_1 : Int) (A0_2 : Option Addr) (c0_2 : Nat) (l0_2 : List (S71)) (a1 : Int) (A2 : Option Addr) (c2 : Nat) (l2 : List Int) (r1 : List Int) (r2 : Bool) (w : World) (hr0_2 : Kd.C k71 w A0_2 l0_2.length l0_2) (hc0_2 : l0_2.length ≤ c0_2) (hr2 : Kd.C (Kd.int .i64) w A2 l2.length l2) (hc2 : l2.length ≤ c2) (h : impl_CarryBoard.f k a0_0 a0_1 l0_2 a1 l2 = some (r1, r2)) :
  Calls Try.prog 43 #[.agg #[.int .i64 a0_0, .int .i64 a0_1, .slice A0_2 l0_2.length c0_2], .int .i64 a1, .slice A2 l2.length c2] w fun e w' => ∃ v0_ : Value, e = .returned (.tuple #[v0_, .bool r2]) ∧ Kd.R (Kd.int .i64) 3 w' w.heap.size (fun _ => True) v0_ r1 ∧ Below w.heap.size w w' := by
 have hu24 := Try.underlying24
 have hu81 := Try.underlying81
 have hu39 := Try.underlying39
 unfold impl_CarryBoard.f at h
 by_cases hk : l0_2.length ≤ maxLen
 case neg => rw [if_neg hk] at h; simp at h
 rw [if_pos hk] at h
 replace h := Option.some.inj h
 unfold resCB at h
 have HC := Aside0.mk hr0_2
 have HCC := Aside0.mk hc0_2
 have H2 := Aside0.mk hr2
 have HC2 := Aside0.mk hc2
 have BA := Aside0.mk (blk_new w (.cells #[.int .i64 a0_0, .int .i64 a0_1, .slice A0_2 l0_2.length c0_2] 24))
 have HB := Aside0.mk (below_alloc (Below.refl w.heap.size w) (.cells #[.int .i64 a0_0, .int .i64 a0_1, .slice A0_2 l0_2.length c0_2] 24))
 obtain ⟨KH, hKH⟩ := validEntry a0_0 a0_1 l0_2 a1 hk
 have HH0 := hKH KH (Nat.le_refl _)
 clear hr0_2 hc0_2 hr2 hc2 hk hKH
 go_enter Try.func43, Try.ntmps43
 by_cases hv : BoOk a0_0 a0_1 l0_2 ∧ 0 ≤ a1 ∧ a1 < a0_1
 case neg =>
  rw [if_neg (fun h_ : CarOk a0_0 a0_1 l0_2 a1 l2 => hv ⟨h_.1.1, h_.2⟩)] at h
  rw [decide_eq_false hv] at HH0
  have HH := Aside0.mk HH0
  cases h
  clear HH0 hv
  go_wp2_with (first | (go_at_call 73; (with_reducible refine (impl_validEntry.calls KH _ _ _ _ l0_2 _ false _ (Kd.C_below HC.out HB.out) HCC.out HH.out).mono ?_); rintro e w2 ⟨rfl, hb⟩; have B2 := Aside0.mk (blk_below BA.out hb); have HB2 := Aside0.mk (below_step HB.out hb); clear hb HB BA; have x0 := (blk_cell B2.out 0).trans rfl; have x1 := (blk_cell B2.out 1).trans rfl; have x2 := (blk_cell B2.out 2).trans rfl) | fail)
  go_ret2
  exact ⟨_, rfl, Kd.R_nil _ _ _ _ _, HB2.out⟩
 rw [decide_eq_true hv] at HH0
 have HH := Aside0.mk HH0
 clear HH0
 by_cases hs : areT l0_2 l2 = true
 case neg =>
  rw [if_neg (fun h_ : CarOk a0_0 a0_1 l0_2 a1 l2 => hs h_.1.2)] at h
  have HS : Aside0 (impl_areTurning.f 0 a0_0 a0_1 l0_2 l2 = some false) := ⟨congrArg some (Bool.eq_false_iff.2 hs)⟩
  cases h
  clear hv hs
  go_wp2_with (first | (go_at_call 73; (with_reducible refine (impl_validEntry.calls KH _ _ _ _ l0_2 _ true _ (Kd.C_below HC.out HB.out) HCC.out HH.out).mono ?_); rintro e w2 ⟨rfl, hb⟩; have B2 := Aside0.mk (blk_below BA.out hb); have HB2 := Aside0.mk (below_step HB.out hb); clear hb HB BA; have x0 := (blk_cell B2.out 0).trans rfl; have x1 := (blk_cell B2.out 1).trans rfl; have x2 := (blk_cell B2.out 2).trans rfl) | (go_at_call 61; (with_reducible refine (impl_areTurning.calls 0 _ _ _ _ l0_2 _ _ l2 false _ (Kd.C_below HC.out HB2.out) HCC.out (Kd.C_below H2.out HB2.out) HC2.out HS.out).mono ?_); rintro e w3 ⟨rfl, hb⟩; have B3 := Aside0.mk (blk_below B2.out hb); have HB3 := Aside0.mk (below_step HB2.out hb); clear hb HB2 B2 x0 x1 x2; have x0 := (blk_cell B3.out 0).trans rfl; have x1 := (blk_cell B3.out 1).trans rfl; have x2 := (blk_cell B3.out 2).trans rfl) | fail)
  go_ret2
  exact ⟨_, rfl, Kd.R_nil _ _ _ _ _, HB3.out⟩
 have HS : Aside0 (impl_areTurning.f 0 a0_0 a0_1 l0_2 l2 = some true) := ⟨congrArg some hs⟩
 have hch : ChoOk a0_0 a0_1 l0_2 l2 := ⟨hv.1, hs⟩
 rw [if_pos (show CarOk a0_0 a0_1 l0_2 a1 l2 from ⟨hch, hv.2⟩)] at h
 obtain ⟨hn1, hn5⟩ := hch.len
 obtain ⟨n, hn⟩ : ∃ n, n = l2.length := ⟨_, rfl⟩
 obtain ⟨N, hN⟩ : ∃ N : Nat, N = 2 ^ l2.length := ⟨_, rfl⟩
 have hN2 : 2 ≤ N ∧ N ≤ 32 := by rw [hN]; exact pow5 ⟨hn1, hn5⟩
 have es1 : IntKind.i64.wrap (2 ^ min l2.length 64) = (N : Int) := by rw [hN, Nat.min_eq_left (by omega)]; exact (pw5 ⟨hn1, hn5⟩).1
 have es2 := (i64_w _).symm.trans es1
 have eu : IntKind.u64.wrap (l2.length : Int) = (l2.length : Int) := (pw5 ⟨hn1, hn5⟩).2
 rw [← hN] at h
 obtain ⟨R, rfl⟩ : ∃ m : Nat, a0_0 = (m : Int) := ⟨a0_0.toNat, by have := hch.1.1.1; omega⟩
 obtain ⟨cn, rfl⟩ : ∃ m : Nat, a0_1 = (m : Int) := ⟨a0_1.toNat, by have := hch.1.2.1.1; omega⟩
 have HCH := Aside0.mk hch
 have HVV := Aside0.mk hv
 have HNE := Aside0.mk hN
 have HN2 := Aside0.mk hN2
 obtain ⟨Q, hQ⟩ : ∃ Q, Q = carGo (R : Int) (cn : Int) l0_2 a1 l2 N 0 [] := ⟨_, rfl⟩
 rw [← hQ] at h
 cases h
 have HQ0 := Aside0.mk hQ
 clear hQ hch hv hs hn hN hn1 hn5 hN2
 go_wp2_with (first | (go_at_call 73; (with_reducible refine (impl_validEntry.calls KH _ _ _ _ l0_2 _ true _ (Kd.C_below HC.out HB.out) HCC.out HH.out).mono ?_); rintro e w2 ⟨rfl, hb⟩; have B2 := Aside0.mk (blk_below BA.out hb); have HB2 := Aside0.mk (below_step HB.out hb); clear hb HB BA; have x0 := (blk_cell B2.out 0).trans rfl; have x1 := (blk_cell B2.out 1).trans rfl; have x2 := (blk_cell B2.out 2).trans rfl) | (go_at_call 61; (with_reducible refine (impl_areTurning.calls 0 _ _ _ _ l0_2 _ _ l2 true _ (Kd.C_below HC.out HB2.out) HCC.out (Kd.C_below H2.out HB2.out) HC2.out HS.out).mono ?_); rintro e w3 ⟨rfl, hb⟩; have B3 := Aside0.mk (blk_below B2.out hb); have HB3 := Aside0.mk (below_step HB2.out hb); clear hb HB2 B2 x0 x1 x2; have x0 := (blk_cell B3.out 0).trans rfl; have x1 := (blk_cell B3.out 1).trans rfl; have x2 := (blk_cell B3.out 2).trans rfl) | ((with_reducible refine gate_dst (N := 23) rfl ?_); refine Kd.R_lit (Kd.int .i64) (w0 := w) w.heap.size 3 ?hg (N := 23) ?hd (xs := ([] : List Int)) (inner := []) (ok := fun _ => True) (okp := fun _ => False) ?hr (Reps.none _ _) (fun _ hk => hk.elim) trivial HB3.out HB3.out.size (by simp) ?_; (case hd => rfl); (case hg => rfl); (case hr => first | (go_simp; done) | (go_simp; rfl)); intro v5 w5 hR hb hg_ _; have HV5 := Aside0.mk hR; have B5 := Aside0.mk (blk_below B3.out (below_of_grown hg_)); have HB5 := Aside0.mk hb; clear hR hb hg_ HB3 B3 x0 x1 x2) | fail)
 go_loopw [8, 9] (fun v8 v9 wr => ∃ (i : Nat) (acc : List Int), v9 = .int .i64 i ∧ i ≤ N ∧ acc.length ≤ i ∧ Aside0 (carGo (R : Int) (cn : Int) l0_2 a1 l2 (N - i) i acc = r1) ∧ Aside0 (Kd.R (Kd.int .i64) 3 wr w.heap.size (fun _ => True) v8 acc) ∧ Aside0 (wr.heap[w.heap.size]? = some (.cells #[.int .i64 (R : Int), .int .i64 (cn : Int), .slice A0_2 l0_2.length c0_2] 24 (0, 0))) ∧ Aside0 (Below w.heap.size w wr)) (fun _ i _ => N - (intOf i).toNat)
 case atStart => exact ⟨0, [], rfl, Nat.zero_le _, Nat.le_refl _, ⟨HQ0.out.symm⟩, HV5, B5, HB5⟩
 case round =>
  clear B5 HB5 HV5 HQ0
  obtain ⟨i, acc, rfl, hi, hal, HQ, HV, B, HB⟩ := hrel
  obtain ⟨Ar, cr, er⟩ := Kd.R_slice HV.out
  subst er
  have x0 := (blk_cell B.out 0).trans rfl
  have x1 := (blk_cell B.out 1).trans rfl
  have x2 := (blk_cell B.out 2).trans rfl
  have hN2 := HN2.out
  by_cases hil : i < N
  ·have hd : decide ((i : Int) < (N : Int)) = true := decide_eq_true (by omega)
   have hiv : i < 2 ^ l2.length := by rw [← HNE.out]; exact hil
   have hbo := withGo_ok HCH.out hiv
   obtain ⟨KW, hKW⟩ := withBits (R : Int) (cn : Int) (i : Int) l2 l0_2 HCH.out.len.2 HCH.out.1.len HCH.out.mem
   have HW := Aside0.mk (hKW KW (Nat.le_refl _))
   obtain ⟨lw, hlw⟩ : ∃ lw, lw = withGo (i : Int) 0 l2 l0_2 := ⟨_, rfl⟩
   rw [← hlw] at HW hbo
   obtain ⟨p, hp⟩ : ∃ p, p = fallV (R : Int) (cn : Int) l0_2 a1 l2 i := ⟨_, rfl⟩
   obtain ⟨gs, hgs⟩ : ∃ gs, gs = grpL R cn lw := ⟨_, rfl⟩
   have hgl : gs.length = R * cn := by rw [hgs]; exact grpL_len R cn lw
   have hpg : A.goC cn gs R 0 a1 0 lw = p := by rw [hp, hgs, hlw]; unfold fallV fallL; rw [Int.toNat_natCast, Int.toNat_natCast]
   have GG : Aside0 (impl_groupNumbers.f 0 (R : Int) (cn : Int) lw = some gs) := ⟨by unfold impl_groupNumbers.f; rw [if_pos hbo, Int.toNat_natCast, Int.toNat_natCast, hgs]⟩
   have hl0 : 0 < lw.length := by have h_ := bo_nat hbo; have h2_ : 1 * 1 ≤ R * cn := Nat.mul_le_mul (by have := hbo.1.1; omega) (by have := hbo.2.1.1; omega); omega
   have DR : Aside0 (∀ (w0 w' : World) (g cap : Nat) (Ag : Option Addr) (cg : Nat), Below w0.heap.size w0 w' → Kd.R k71 71 w' w0.heap.size (fun k => k = g) (.slice (some ⟨g, 0, none⟩) lw.length cap) lw → (∀ W_, Kept w' W_ (fun k => k = g) → Kd.C (Kd.int .i64) W_ Ag gs.length gs) → gs.length ≤ cg → Calls Try.prog 76 #[.agg #[.int .i64 (R : Int), .int .i64 (cn : Int), .slice (some ⟨g, 0, none⟩) lw.length cap], .slice Ag gs.length cg, .int .i64 a1] w' fun e_ w'' => DropMade w0 w' (fun k => k = g) g lw.length cap p e_ w'') := ⟨fun w0 w' g cap Ag cg hB ho hG hgc => by have h_ := drop_own w0 w' (fun k => k = g) g lw.length cap R cn lw Ag cg gs a1 hB ho hG hgc hbo hgl HVV.out.2.1 HVV.out.2.2; rw [hpg] at h_; exact h_⟩
   have hq := HQ.out
   rw [show N - i = (N - (i + 1)) + 1 by omega] at hq
   unfold carGo at hq
   rw [← hp] at hq
   obtain ⟨⟨q1, q2, q3⟩, cs⟩ := p
   simp only at DR hq
   have HQ0 := Aside0.mk hq
   have HL0 := Aside0.mk hl0
   clear hq hp hlw hbo hiv hKW HQ hgs hgl hpg hl0
   go_wp2_with (first | (go_at_call 65; (with_reducible refine (impl_withBits.calls KW _ _ _ _ l0_2 _ _ l2 _ _ _ lw _ (Kd.C_below HC.out HB.out) HCC.out (Kd.C_below H2.out HB.out) HC2.out HW.out).mono ?_); rintro e w4 ⟨vw, rfl, hR, hb⟩; obtain ⟨g, cap, ev, _, _, _⟩ := Kd.R_form hR HL0.out; subst ev; have HR := Aside0.mk (Kd.R_mono (ok' := fun k => k = g) (Kd.R_tight rfl hR) (fun k hk_ => by have h1_ : some k = some g := hk_; injection h1_)); have HZ := Aside0.mk hb; clear hb hR x0 x1 x2) | fail)
   have GX := Aside0.mk (blk_new w4 (.cells #[.int .i64 (R : Int), .int .i64 (cn : Int), .slice (some ⟨g, 0, none⟩) lw.length cap] 24))
   have HZ8 := Aside0.mk (below_alloc HZ.out (.cells #[.int .i64 (R : Int), .int .i64 (cn : Int), .slice (some ⟨g, 0, none⟩) lw.length cap] 24))
   have HR8 := Aside0.mk (Kd.R_below HR.out (below_alloc (Below.refl w4.heap.size w4) (.cells #[.int .i64 (R : Int), .int .i64 (cn : Int), .slice (some ⟨g, 0, none⟩) lw.length cap] 24)))
   have hlt := Kd.R_lt HR.out g rfl
   obtain ⟨gx, hgx⟩ : ∃ x, x = w4.heap.size := ⟨_, rfl⟩
   rw [← hgx] at GX hlt
   rw [← hgx]
   have NG : Aside0 (¬ gx = g) := ⟨by omega⟩
   generalize w4.alloc (.cells #[.int .i64 (R : Int), .int .i64 (cn : Int), .slice (some ⟨g, 0, none⟩) lw.length cap] 24) = w8 at GX HZ8 HR8 ⊢
   clear hlt hgx HZ HR
   refine start_ (n := 11) (S := fun w' => w'.cell? ⟨gx, 0, none⟩ = some (.int .i64 (R : Int)) ∧ w'.cell? ⟨gx, 1, none⟩ = some (.int .i64 (cn : Int)) ∧ w'.cell? ⟨gx, 2, none⟩ = some (.slice (some ⟨g, 0, none⟩) lw.length cap)) (ds := []) #[false,false,false,false,false,false,false,false,false,false,false] (by kernel_rfl) rfl rfl ⟨(blk_cell GX.out 0).trans rfl, (blk_cell GX.out 1).trans rfl, (blk_cell GX.out 2).trans rfl⟩ (fun hHeld => ?_)
   refine Own.anew_ (wN := w8) Own.bel hHeld (fun wy hzb hHeld => ?_)
   replace GX := Aside0.mk (blk_below GX.out hzb)
   have HR := Aside0.mk (Kd.R_below HR8.out hzb)
   have HZ := Aside0.mk (below_step HZ8.out hzb)
   clear hzb HR8 HZ8
   refine Own.tk_ (i := 0) (N := some 36) #[true,false,false,false,false,false,false,false,false,false,false] hHeld ?_
   refine Own.tk_ (i := 1) (N := some 37) #[true,true,false,false,false,false,false,false,false,false,false] hHeld ?_
   refine Own.pu_ (i := 3) (N := some 39) #[true,true,false,true,false,false,false,false,false,false,false] ?_
   refine join_ (σ := Option Addr × Nat × Value × Nat) 2 #[true,true,true,true,true,true,true,true,true,false,false] (fun s_ => [(38, .slice s_.1 gs.length s_.2.1), (40, .tuple #[.agg #[.int .i64 q1, .int .i64 q2, .int .i64 q3], s_.2.2.1]), (35, .tuple #[.agg #[.int .i64 q1, .int .i64 q2, .int .i64 q3], s_.2.2.1]), (41, .agg #[.int .i64 q1, .int .i64 q2, .int .i64 q3]), (42, s_.2.2.1), (11, .pointer (some ⟨s_.2.2.2, 0, none⟩))]) (fun s_ w' => (w'.cell? ⟨gx, 0, none⟩ = some (.int .i64 (R : Int)) ∧ w'.cell? ⟨gx, 1, none⟩ = some (.int .i64 (cn : Int)) ∧ w'.cell? ⟨gx, 2, none⟩ = some (.slice (some ⟨g, 0, none⟩) lw.length cap)) ∧ w'.heap[gx]? = some (.cells #[.int .i64 (R : Int), .int .i64 (cn : Int), .slice (some ⟨g, 0, none⟩) lw.length cap] 24 (0, 0)) ∧ Below wr.heap.size wr w' ∧ w'.heap[s_.2.2.2]? = some (.cells #[.int .i64 0, .int .i64 0, .int .i64 0] 81 (0, 0)) ∧ wr.heap.size ≤ s_.2.2.2) ?_ ?_
   rotate_left
   ·intro hJ21
    refine join_ (σ := Option Addr × Nat × Value × Nat) 3 #[true,true,true,true,true,true,true,true,false,false,false] (fun s_ => [(38, .slice s_.1 gs.length s_.2.1), (40, .tuple #[.agg #[.int .i64 q1, .int .i64 q2, .int .i64 q3], s_.2.2.1]), (35, .tuple #[.agg #[.int .i64 q1, .int .i64 q2, .int .i64 q3], s_.2.2.1]), (41, .agg #[.int .i64 q1, .int .i64 q2, .int .i64 q3]), (42, s_.2.2.1)]) (fun s_ w' => (w'.cell? ⟨gx, 0, none⟩ = some (.int .i64 (R : Int)) ∧ w'.cell? ⟨gx, 1, none⟩ = some (.int .i64 (cn : Int)) ∧ w'.cell? ⟨gx, 2, none⟩ = some (.slice (some ⟨g, 0, none⟩) lw.length cap)) ∧ w'.heap[gx]? = some (.cells #[.int .i64 (R : Int), .int .i64 (cn : Int), .slice (some ⟨g, 0, none⟩) lw.length cap] 24 (0, 0)) ∧ Below wr.heap.size wr w') ?_ ?_
    rotate_left
    ·intro hJ20
     refine join_ (σ := Option Addr × Nat × Value × Nat) 6 #[true,true,true,true,false,false,false,false,true,false,false] (fun s_ => [(38, .slice s_.1 gs.length s_.2.1), (11, .pointer (some ⟨s_.2.2.2, 0, none⟩))]) (fun s_ w' => (w'.cell? ⟨gx, 0, none⟩ = some (.int .i64 (R : Int)) ∧ w'.cell? ⟨gx, 1, none⟩ = some (.int .i64 (cn : Int)) ∧ w'.cell? ⟨gx, 2, none⟩ = some (.slice (some ⟨g, 0, none⟩) lw.length cap)) ∧ w'.heap[gx]? = some (.cells #[.int .i64 (R : Int), .int .i64 (cn : Int), .slice (some ⟨g, 0, none⟩) lw.length cap] 24 (0, 0)) ∧ Below wr.heap.size wr w' ∧ Kd.R k71 71 w' wr.heap.size (fun k => k = g) (.slice (some ⟨g, 0, none⟩) lw.length cap) lw ∧ Kd.R (Kd.int .i64) 3 w' wr.heap.size (fun k => k ≠ g) (.slice s_.1 gs.length s_.2.1) gs ∧ w'.heap[s_.2.2.2]? = some (.cells #[.int .i64 0, .int .i64 0, .int .i64 0] 81 (0, 0)) ∧ wr.heap.size ≤ s_.2.2.2) ?_ ?_
     rotate_left
     ·intro hJ11
      refine join_ (σ := Option Addr × Nat × Value × Nat) 7 #[true,true,true,true,false,false,false,false,false,false,false] (fun s_ => [(38, .slice s_.1 gs.length s_.2.1)]) (fun s_ w' => (w'.cell? ⟨gx, 0, none⟩ = some (.int .i64 (R : Int)) ∧ w'.cell? ⟨gx, 1, none⟩ = some (.int .i64 (cn : Int)) ∧ w'.cell? ⟨gx, 2, none⟩ = some (.slice (some ⟨g, 0, none⟩) lw.length cap)) ∧ w'.heap[gx]? = some (.cells #[.int .i64 (R : Int), .int .i64 (cn : Int), .slice (some ⟨g, 0, none⟩) lw.length cap] 24 (0, 0)) ∧ Below wr.heap.size wr w' ∧ Kd.R k71 71 w' wr.heap.size (fun k => k = g) (.slice (some ⟨g, 0, none⟩) lw.length cap) lw ∧ Kd.R (Kd.int .i64) 3 w' wr.heap.size (fun k => k ≠ g) (.slice s_.1 gs.length s_.2.1) gs) ?_ ?_
      rotate_left
      ·intro hJ10
       refine join_ (σ := Option Addr × Nat × Value × Nat) 7 #[true,true,false,true,false,false,false,false,true,false,false] (fun s_ => [(11, .pointer (some ⟨s_.2.2.2, 0, none⟩))]) (fun s_ w' => (w'.cell? ⟨gx, 0, none⟩ = some (.int .i64 (R : Int)) ∧ w'.cell? ⟨gx, 1, none⟩ = some (.int .i64 (cn : Int)) ∧ w'.cell? ⟨gx, 2, none⟩ = some (.slice (some ⟨g, 0, none⟩) lw.length cap)) ∧ w'.heap[gx]? = some (.cells #[.int .i64 (R : Int), .int .i64 (cn : Int), .slice (some ⟨g, 0, none⟩) lw.length cap] 24 (0, 0)) ∧ Below wr.heap.size wr w' ∧ Kd.R k71 71 w' wr.heap.size (fun k => k = g) (.slice (some ⟨g, 0, none⟩) lw.length cap) lw ∧ w'.heap[s_.2.2.2]? = some (.cells #[.int .i64 0, .int .i64 0, .int .i64 0] 81 (0, 0)) ∧ wr.heap.size ≤ s_.2.2.2) ?_ ?_
       rotate_left
       ·intro hJ01
        refine two_ (i := 2) (j := 8) (Ni := some 38) (Nj := some 11) #[true,true,true,true,false,false,false,false,false,false,false] #[true,true,false,true,false,false,false,false,true,false,false] rfl rfl rfl rfl (by kernel_rfl) (by decide) (by decide) (fun K hK => ?_) (fun K hK => ?_)
        ·skip
         refine goes_ Try.func77 (by kernel_rfl) rfl #[.agg #[.int .i64 (R : Int), .int .i64 (cn : Int), .slice (some ⟨g, 0, none⟩) lw.length cap]] (by rfl) rfl rfl Own.mapd ?_
         with_reducible refine (impl_groupNumbers.calls 0 _ _ _ _ lw gs _ (Kd.R_reads' HR.out).2.2 (Kd.R_reads' HR.out).2.1 GG.out).mono ?_
         rintro e w1 ⟨v, rfl, hG, hb⟩
         refine ⟨_, rfl, ?_⟩
         obtain ⟨Ag, cg, eg⟩ := Kd.R_slice hG
         subst eg
         have HG := Aside0.mk (Kd.R_mono (ok' := fun k => k ≠ g) (Kd.R_lower (Kd.R_new' hG (Kd.R_lt HR.out)) HZ.out.size) (fun k hk_ e_ => hk_.2 (by rw [e_]; rfl)))
         replace HR := Aside0.mk (Kd.R_below HR.out hb)
         replace GX := Aside0.mk (blk_below GX.out hb)
         replace HZ := Aside0.mk (below_step HZ.out hb)
         clear hb hG
         refine hK.out _ _ ⟨(blk_cell GX.out 0).trans rfl, (blk_cell GX.out 1).trans rfl, (blk_cell GX.out 2).trans rfl⟩ (fun hHeld => ?_)
         clear hK K
         refine Own.nm_ (some 38) ?_
         exact norm_ (by simp only [putAll, Own.putL]) (hJ10 (Ag, cg, undef, 0) _ ⟨hHeld, GX.out, HZ.out, HR.out, HG.out⟩)
        ·skip
         refine box_step (by rfl) (N := 11) rfl (cs := #[.int .i64 0, .int .i64 0, .int .i64 0]) (t := 81) ?hr ?_
         case hr => first | (go_simp; done) | (go_simp; rfl)
         intro g6 hg w1 hbox hb
         have LX : Aside0 (wr.heap.size ≤ g6) := ⟨by rw [hg]; exact HZ.out.size⟩
         replace GX := Aside0.mk (blk_below GX.out hb)
         replace HR := Aside0.mk (Kd.R_below HR.out hb)
         replace HZ := Aside0.mk (below_step HZ.out hb)
         have HX := Aside0.mk hbox
         clear hg hb hbox
         refine hK.out _ _ ⟨(blk_cell GX.out 0).trans rfl, (blk_cell GX.out 1).trans rfl, (blk_cell GX.out 2).trans rfl⟩ (fun hHeld => ?_)
         clear hK K
         refine Own.nm_ (some 11) ?_
         exact norm_ (by simp only [putAll, Own.putL]) (hJ01 (none, 0, undef, g6) _ ⟨hHeld, GX.out, HZ.out, HR.out, HX.out, LX.out⟩)
       clear HZ hHeld GX HR
       rintro ⟨Ag, cg, vw, g6⟩ wj ⟨hHeld, gx, hz, hr, hx, lx⟩
       have GX := Aside0.mk gx
       have HZ := Aside0.mk hz
       have HR := Aside0.mk hr
       have HX := Aside0.mk hx
       have LX := Aside0.mk lx
       clear gx hz hr hx lx
       refine norm_ (a' := ?_) ?_ ?_
       rotate_left
       ·simp only [putAll, Own.putL]
        rfl
       refine one_ (i := 2) (N := some 38) #[true,true,true,true,false,false,false,false,true,false,false] rfl rfl (by kernel_rfl) (by decide) (fun K hK => ?_)
       refine goes_ Try.func77 (by kernel_rfl) rfl #[.agg #[.int .i64 (R : Int), .int .i64 (cn : Int), .slice (some ⟨g, 0, none⟩) lw.length cap]] (by rfl) rfl rfl Own.mapd ?_
       with_reducible refine (impl_groupNumbers.calls 0 _ _ _ _ lw gs _ (Kd.R_reads' HR.out).2.2 (Kd.R_reads' HR.out).2.1 GG.out).mono ?_
       rintro e w1 ⟨v, rfl, hG, hb⟩
       refine ⟨_, rfl, ?_⟩
       obtain ⟨Ag, cg, eg⟩ := Kd.R_slice hG
       subst eg
       have HG := Aside0.mk (Kd.R_mono (ok' := fun k => k ≠ g) (Kd.R_lower (Kd.R_new' hG (Kd.R_lt HR.out)) HZ.out.size) (fun k hk_ e_ => hk_.2 (by rw [e_]; rfl)))
       replace HR := Aside0.mk (Kd.R_below HR.out hb)
       replace GX := Aside0.mk (blk_below GX.out hb)
       replace HX := Aside0.mk (blk_below HX.out hb)
       replace HZ := Aside0.mk (below_step HZ.out hb)
       clear hb hG
       refine hK.out _ _ ⟨(blk_cell GX.out 0).trans rfl, (blk_cell GX.out 1).trans rfl, (blk_cell GX.out 2).trans rfl⟩ (fun hHeld => ?_)
       clear hK K
       refine Own.nm_ (some 38) ?_
       exact norm_ (by simp only [putAll, Own.putL]) (hJ11 (Ag, cg, undef, g6) _ ⟨hHeld, GX.out, HZ.out, HR.out, HG.out, HX.out, LX.out⟩)
      clear HZ hHeld GX HR
      rintro ⟨Ag, cg, vw, g6⟩ wj ⟨hHeld, gx, hz, hr, hg⟩
      have GX := Aside0.mk gx
      have HZ := Aside0.mk hz
      have HR := Aside0.mk hr
      have HG := Aside0.mk hg
      clear gx hz hr hg
      refine norm_ (a' := ?_) ?_ ?_
      rotate_left
      ·simp only [putAll, Own.putL]
       rfl
      refine two_ (i := 4) (j := 8) (Ni := some 40) (Nj := some 11) #[true,true,true,true,true,false,false,false,false,false,false] #[true,true,true,true,false,false,false,false,true,false,false] rfl rfl rfl rfl (by kernel_rfl) (by decide) (by decide) (fun K hK => ?_) (fun K hK => ?_)
      ·skip
       refine goes_ Try.func76 (by kernel_rfl) rfl #[.agg #[.int .i64 (R : Int), .int .i64 (cn : Int), .slice (some ⟨g, 0, none⟩) lw.length cap], .slice Ag gs.length cg, .int .i64 a1] (by rfl) rfl rfl Own.mapd ?_
       with_reducible refine (DR.out wr _ g cap Ag cg HZ.out HR.out (Kd.C_kept_own HG.out (fun k hk_ => hk_)) (Kd.R_reads' HG.out).2.1).mono ?_
       rintro e w1 ⟨vw, rfl, hRd, hb, hk⟩
       refine ⟨_, rfl, ?_⟩
       replace GX := Aside0.mk (blk_kept GX.out hk NG.out)
       replace HZ := Aside0.mk hb
       have HRd := Aside0.mk hRd
       clear hb hk HR HG hRd
       refine hK.out _ _ ⟨(blk_cell GX.out 0).trans rfl, (blk_cell GX.out 1).trans rfl, (blk_cell GX.out 2).trans rfl⟩ (fun hHeld => ?_)
       clear hK K
       refine Own.nm_ (some 40) ?_
       clear HRd
       refine Own.pu_ (i := 5) (N := some 35) #[true,true,true,true,true,true,false,false,false,false,false] ?_
       refine Own.pu_ (i := 6) (N := some 41) #[true,true,true,true,true,true,true,false,false,false,false] ?_
       refine Own.pu_ (i := 7) (N := some 42) #[true,true,true,true,true,true,true,true,false,false,false] ?_
       exact norm_ (by simp only [putAll, Own.putL]) (hJ20 (Ag, cg, vw, 0) _ ⟨hHeld, GX.out, HZ.out⟩)
      ·skip
       refine box_step (by rfl) (N := 11) rfl (cs := #[.int .i64 0, .int .i64 0, .int .i64 0]) (t := 81) ?hr ?_
       case hr => first | (go_simp; done) | (go_simp; rfl)
       intro g6 hg w1 hbox hb
       have LX : Aside0 (wr.heap.size ≤ g6) := ⟨by rw [hg]; exact HZ.out.size⟩
       replace GX := Aside0.mk (blk_below GX.out hb)
       replace HR := Aside0.mk (Kd.R_below HR.out hb)
       replace HG := Aside0.mk (Kd.R_below HG.out hb)
       replace HZ := Aside0.mk (below_step HZ.out hb)
       have HX := Aside0.mk hbox
       clear hg hb hbox
       refine hK.out _ _ ⟨(blk_cell GX.out 0).trans rfl, (blk_cell GX.out 1).trans rfl, (blk_cell GX.out 2).trans rfl⟩ (fun hHeld => ?_)
       clear hK K
       refine Own.nm_ (some 11) ?_
       exact norm_ (by simp only [putAll, Own.putL]) (hJ11 (Ag, cg, undef, g6) _ ⟨hHeld, GX.out, HZ.out, HR.out, HG.out, HX.out, LX.out⟩)
     clear HZ hHeld GX HR
     rintro ⟨Ag, cg, vw, g6⟩ wj ⟨hHeld, gx, hz, hr, hg, hx, lx⟩
     have GX := Aside0.mk gx
     have HZ := Aside0.mk hz
     have HR := Aside0.mk hr
     have HG := Aside0.mk hg
     have HX := Aside0.mk hx
     have LX := Aside0.mk lx
     clear gx hz hr hg hx lx
     refine norm_ (a' := ?_) ?_ ?_
     rotate_left
     ·simp only [putAll, Own.putL]
      rfl
     refine one_ (i := 4) (N := some 40) #[true,true,true,true,true,false,false,false,true,false,false] rfl rfl (by kernel_rfl) (by decide) (fun K hK => ?_)
     refine goes_ Try.func76 (by kernel_rfl) rfl #[.agg #[.int .i64 (R : Int), .int .i64 (cn : Int), .slice (some ⟨g, 0, none⟩) lw.length cap], .slice Ag gs.length cg, .int .i64 a1] (by rfl) rfl rfl Own.mapd ?_
     with_reducible refine (DR.out wr _ g cap Ag cg HZ.out HR.out (Kd.C_kept_own HG.out (fun k hk_ => hk_)) (Kd.R_reads' HG.out).2.1).mono ?_
     rintro e w1 ⟨vw, rfl, hRd, hb, hk⟩
     refine ⟨_, rfl, ?_⟩
     replace GX := Aside0.mk (blk_kept GX.out hk NG.out)
     have hx6 : ¬ (g6 = g) := fun e_ => by have h1_ : some g6 ≠ some g := Kd.R_ne HR.out HX.out (by decide); exact h1_ (by rw [e_])
     replace HX := Aside0.mk (blk_kept HX.out hk hx6)
     clear hx6
     replace HZ := Aside0.mk hb
     have HRd := Aside0.mk hRd
     clear hb hk HR HG hRd
     refine hK.out _ _ ⟨(blk_cell GX.out 0).trans rfl, (blk_cell GX.out 1).trans rfl, (blk_cell GX.out 2).trans rfl⟩ (fun hHeld => ?_)
     clear hK K
     refine Own.nm_ (some 40) ?_
     clear HRd
     refine Own.pu_ (i := 5) (N := some 35) #[true,true,true,true,true,true,false,false,true,false,false] ?_
     refine Own.pu_ (i := 6) (N := some 41) #[true,true,true,true,true,true,true,false,true,false,false] ?_
     refine Own.pu_ (i := 7) (N := some 42) #[true,true,true,true,true,true,true,true,true,false,false] ?_
     exact norm_ (by simp only [putAll, Own.putL]) (hJ21 (Ag, cg, vw, g6) _ ⟨hHeld, GX.out, HZ.out, HX.out, LX.out⟩)
    clear HZ hHeld GX HR
    rintro ⟨Ag, cg, vw, g6⟩ wj ⟨hHeld, gx, hz⟩
    have GX := Aside0.mk gx
    have HZ := Aside0.mk hz
    clear gx hz
    refine norm_ (a' := ?_) ?_ ?_
    rotate_left
    ·simp only [putAll, Own.putL]
     rfl
    refine one_ (i := 8) (N := some 11) #[true,true,true,true,true,true,true,true,true,false,false] rfl rfl (by kernel_rfl) (by decide) (fun K hK => ?_)
    refine box_step (by rfl) (N := 11) rfl (cs := #[.int .i64 0, .int .i64 0, .int .i64 0]) (t := 81) ?hr ?_
    case hr => first | (go_simp; done) | (go_simp; rfl)
    intro g6 hg w1 hbox hb
    have LX : Aside0 (wr.heap.size ≤ g6) := ⟨by rw [hg]; exact HZ.out.size⟩
    replace GX := Aside0.mk (blk_below GX.out hb)
    replace HZ := Aside0.mk (below_step HZ.out hb)
    have HX := Aside0.mk hbox
    clear hg hb hbox
    refine hK.out _ _ ⟨(blk_cell GX.out 0).trans rfl, (blk_cell GX.out 1).trans rfl, (blk_cell GX.out 2).trans rfl⟩ (fun hHeld => ?_)
    clear hK K
    refine Own.nm_ (some 11) ?_
    exact norm_ (by simp only [putAll, Own.putL]) (hJ21 (Ag, cg, vw, g6) _ ⟨hHeld, GX.out, HZ.out, HX.out, LX.out⟩)
   clear HZ hHeld GX HR
   rintro ⟨Ag, cg, vw, g6⟩ wj ⟨hHeld, gx, hz, hx, lx⟩
   have GX := Aside0.mk gx
   have HZ := Aside0.mk hz
   have HX := Aside0.mk hx
   have LX := Aside0.mk lx
   clear gx hz hx lx
   refine norm_ (a' := ?_) ?_ ?_
   rotate_left
   ·simp only [putAll, Own.putL]
    rfl
   have NF : gx ≠ g6 := blk_ne GX.out HX.out (by decide)
   have s60 := (blk_cell HX.out 0).trans rfl
   have s61 := (blk_cell HX.out 1).trans rfl
   have s62 := (blk_cell HX.out 2).trans rfl
   have f60 := blk_frozen HX.out 0
   have f61 := blk_frozen HX.out 1
   have f62 := blk_frozen HX.out 2
   refine one_ (i := 9) (N := none) #[true,true,true,true,true,true,true,true,true,true,false] rfl rfl (by kernel_rfl) (by decide) (fun K hK => ?_)
   refine skip_ (w1 := (((wj.setCell ⟨g6, 0, none⟩ (.int .i64 q1)).setCell ⟨g6, 1, none⟩ (.int .i64 q2)).setCell ⟨g6, 2, none⟩ (.int .i64 q3))) (by rfl) rfl ?_ ?_
   ·first | (go_simp; done) | (go_simp; rfl)
   have X3 := blk_put (cs' := #[.int .i64 q1, .int .i64 q2, .int .i64 q3]) (blk_put (cs' := #[.int .i64 q1, .int .i64 q2, .int .i64 0]) (blk_put (cs' := #[.int .i64 q1, .int .i64 0, .int .i64 0]) HX.out 0 (.int .i64 q1) rfl) 1 (.int .i64 q2) rfl) 2 (.int .i64 q3) rfl
   have G3 := blk_far (blk_far (blk_far GX.out (p := ⟨g6, 0, none⟩) NF (.int .i64 q1)) (p := ⟨g6, 1, none⟩) NF (.int .i64 q2)) (p := ⟨g6, 2, none⟩) NF (.int .i64 q3)
   have Z3 := below_set (j := 2) (v := .int .i64 q3) (below_set (j := 1) (v := .int .i64 q2) (below_set (j := 0) (v := .int .i64 q1) HZ.out LX.out) LX.out) LX.out
   clear s60 s61 s62 f60 f61 f62 HX HZ hHeld NF
   generalize (((wj.setCell ⟨g6, 0, none⟩ (.int .i64 q1)).setCell ⟨g6, 1, none⟩ (.int .i64 q2)).setCell ⟨g6, 2, none⟩ (.int .i64 q3)) = wk at X3 G3 Z3 hK ⊢
   refine hK.out _ _ ⟨(blk_cell G3 0).trans rfl, (blk_cell G3 1).trans rfl, (blk_cell G3 2).trans rfl⟩ (fun hHeld => ?_)
   clear hK K G3
   refine Own.pu_ (i := 10) (N := some 12) #[true,true,true,true,true,true,true,true,true,true,true] ?_
   refine done_ (by kernel_rfl) ?_
   clear hHeld GX
   have x0 := (blk_cell X3 0).trans rfl
   have x1 := (blk_cell X3 1).trans rfl
   have x2 := (blk_cell X3 2).trans rfl
   have B7 := Aside0.mk (blk_below B.out Z3)
   have HB7 := Aside0.mk (below_step HB.out Z3)
   have HV7 := Aside0.mk (Kd.R_below HV.out Z3)
   clear Z3 X3 B HB HV
   by_cases h1 : q1 = 1
   case neg =>
    have hq := HQ0.out
    rw [if_neg (fun h_ => h1 h_.1)] at hq
    have HQ := Aside0.mk hq
    have b1 : (q1 == 1) = false := beq_false_of_ne h1
    clear hq HQ0 h1
    go_wp2
    go_roundw
    case rel => first | exact ⟨i + 1, acc, by go_num, by omega, by omega, HQ, HV7, B7, HB7⟩ | ((repeat apply Exists.intro); exact ⟨⟨i + 1, acc, by go_num, by omega, by omega, HQ, HV7, B7, HB7⟩, rfl⟩)
    case measure => simp [intOf]; omega
   subst h1
   by_cases h3 : q3 = a1
   case neg =>
    have hq := HQ0.out
    rw [if_neg (fun h_ => h3 h_.2)] at hq
    have HQ := Aside0.mk hq
    have b3 : (q3 == a1) = false := beq_false_of_ne h3
    clear hq HQ0 h3
    go_wp2
    go_roundw
    case rel => first | exact ⟨i + 1, acc, by go_num, by omega, by omega, HQ, HV7, B7, HB7⟩ | ((repeat apply Exists.intro); exact ⟨⟨i + 1, acc, by go_num, by omega, by omega, HQ, HV7, B7, HB7⟩, rfl⟩)
    case measure => simp [intOf]; omega
   have hq := HQ0.out
   rw [if_pos ⟨rfl, h3⟩] at hq
   have HQ := Aside0.mk hq
   have b3 : (q3 == a1) = true := by rw [h3]; simp
   clear hq HQ0 h3
   go_wp2_with (first
    | ((with_reducible refine gate_builtin (b := .append) (xs := #[.tmp 52, .tmp 54]) rfl ?_); at_builtin; refine Kd.R_append (Kd.int .i64) (w0 := w) w.heap.size rfl (.tmp 52) (.tmp 54) 39 3 (.int .i64 0) 8 rfl Try.underlying39 info3 rfl (by decide) (by decide) (.slice Ar acc.length cr) acc (i : Int) [.int .i64 (i : Int)] (fun _ => True) (fun _ => False) rfl rfl ?aP (fun _ hk => hk.elim) (fun _ _ => trivial) ?aO ?aB ?aS ?aL ?_; (case aP => exact rfl); (case aO => exact HV7.out); (case aB => exact HB7.out); (case aS => exact HB7.out.size); (case aL => exact Nat.le_trans (Nat.mul_le_mul_right 8 (Nat.succ_le_succ (Nat.le_trans hal (Nat.le_trans hi HN2.out.2)))) (by decide)); intro v9 w9 hS hb hg_ _; have HV9 := Aside0.mk hS; have B9 := Aside0.mk (blk_grown B7.out hg_ (Kd.R_ne HV7.out B7.out (by decide))); have HB9 := Aside0.mk hb; clear hS hb hg_)
    | fail)
   go_roundw
   case rel => first | exact ⟨i + 1, acc ++ [(i : Int)], by go_num, by omega, by simp; omega, HQ, HV9, B9, HB9⟩ | ((repeat apply Exists.intro); exact ⟨⟨i + 1, acc ++ [(i : Int)], by go_num, by omega, by simp; omega, HQ, HV9, B9, HB9⟩, rfl⟩)
   case measure => simp [intOf]; omega
  ·have hd : decide ((i : Int) < (N : Int)) = false := decide_eq_false (by omega)
   obtain rfl : i = N := by omega
   have hq := HQ.out
   rw [Nat.sub_self] at hq
   unfold carGo at hq
   subst hq
   go_wp2
   go_ret2
   exact ⟨_, rfl, HV.out, HB.out⟩
end Go.Proofs.Ytcilbmbgdcepgaa.P
