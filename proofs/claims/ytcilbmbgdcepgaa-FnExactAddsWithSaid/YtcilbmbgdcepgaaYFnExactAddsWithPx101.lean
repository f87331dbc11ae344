/- The walk of impl.AddsWith (printed by gen_cw.py). -/
import Derived.Test.YtcilbmbgdcepgaaYFnExactAddsWithACar
import Derived.Test.YtcilbmbgdcepgaaYFnExactAddsWithABitsR
import Derived.Test.YtcilbmbgdcepgaaYFnExactAddsWithAValid
import Derived.Test.YtcilbmbgdcepgaaYFnExactAddsWithAFall
import Derived.Test.YtcilbmbgdcepgaaOwnW
import Derived.IntWalk
import Derived.Test.YtcilbmbgdcepgaaYFnExactAddsWithPx84
import Derived.Test.YtcilbmbgdcepgaaYFnExactAddsWithPx87
import Derived.Test.YtcilbmbgdcepgaaYFnExactAddsWithPx81
import Derived.Test.YtcilbmbgdcepgaaZFnExactAddsWith0
import Derived.Test.YtcilbmbgdcepgaaYFnExactAddsWithPx51
namespace Go.Proofs.Ytcilbmbgdcepgaa.P
open Go.RowKit YtcilbmbgdcepgaaW.PrintWords YtcilbmbgdcepgaaW.PrintLast YtcilbmbgdcepgaaW.PrintMore Own A
set_option linter.unusedVariables false
set_option linter.unusedSimpArgs false
/-! ### impl_AddsWith: function 41 -/
def impl_AddsWith.f (k : Nat) (a0_0 : Int) (a0_1 : Int) (l0_2 : List (S71)) (a1 : Int) (l2 : List Int) : Option (Int × Bool) := if l0_2.length ≤ maxLen then some (resAW a0_0 a0_1 l0_2 a1 l2) else none
theorem impl_AddsWith.mono : ∀ a0 a1 a2 a3 a4 k, LeO (impl_AddsWith.f k a0 a1 a2 a3 a4) (impl_AddsWith.f (k + 1) a0 a1 a2 a3 a4) := fun _ _ _ _ _ _ _ h => h
set_option maxHeartbeats 8000000 in
set_option maxRecDepth 100000 in
theorem impl_AddsWith.calls (k : Nat) (a0_0 : Int) (a0_1 : Int) (A0_2 : Option Addr) (c0_2 : Nat) (l0_2 : List (S71)) (a1 : Int) (A2 : Option Addr) (c2 : Nat) (l2 : List Int) (r1 : Int) (r2 : Bool) (w : World) (hr0_2 : Kd.C k71 w A0_2 l0_2.length l0_2) (hc0_2 : l0_2.length ≤ c0_2) (hr2 : Kd.C (Kd.int .i64) w A2 l2.length l2) (hc2 : l2.length ≤ c2) (h : impl_AddsWith.f k a0_0 a0_1 l0_2 a1 l2 = some (r1, r2)) :
  Calls Try.prog 41 #[.agg #[.int .i64 a0_0, .int .i64 a0_1, .slice A0_2 l0_2.length c0_2], .int .i64 a1, .slice A2 l2.length c2] w fun e w' => e = .returned (.tuple #[.int .i64 r1, .bool r2]) ∧ Below w.heap.size w w' := by
 have hu24 := Try.underlying24
 have hu81 := Try.underlying81
 have hu39 := Try.underlying39
 unfold impl_AddsWith.f at h
 by_cases hk : l0_2.length ≤ maxLen
 case neg => rw [if_neg hk] at h; simp at h
 rw [if_pos hk] at h
 replace h := Option.some.inj h
 unfold resAW at h
 have HC := Aside0.mk hr0_2
 have HCC := Aside0.mk hc0_2
 have H2 := Aside0.mk hr2
 have HC2 := Aside0.mk hc2
 have BA := Aside0.mk (blk_new w (.cells #[.int .i64 a0_0, .int .i64 a0_1, .slice A0_2 l0_2.length c0_2] 24))
 have HB := Aside0.mk (below_alloc (Below.refl w.heap.size w) (.cells #[.int .i64 a0_0, .int .i64 a0_1, .slice A0_2 l0_2.length c0_2] 24))
 obtain ⟨KH, hKH⟩ := validEntry a0_0 a0_1 l0_2 a1 hk
 have HH0 := hKH KH (Nat.le_refl _)
 clear hr0_2 hc0_2 hr2 hc2 hk hKH
 go_enter Try.func41, Try.ntmps41
 by_cases hv : BoOk a0_0 a0_1 l0_2 ∧ 0 ≤ a1 ∧ a1 < a0_1
 case neg =>
  rw [if_neg (fun h_ : CarOk a0_0 a0_1 l0_2 a1 l2 => hv ⟨h_.1.1, h_.2⟩)] at h
  rw [decide_eq_false hv] at HH0
  have HH := Aside0.mk HH0
  cases h
  clear HH0 hv
  go_wp2_with (first | (go_at_call 73; (with_reducible refine (impl_validEntry.calls KH _ _ _ _ l0_2 _ false _ (Kd.C_below HC.out HB.out) HCC.out HH.out).mono ?_); rintro e w2 ⟨rfl, hb⟩; have B2 := Aside0.mk (blk_below BA.out hb); have HB2 := Aside0.mk (below_step HB.out hb); clear hb HB BA; have x0 := (blk_cell B2.out 0).trans rfl; have x1 := (blk_cell B2.out 1).trans rfl; have x2 := (blk_cell B2.out 2).trans rfl) | fail)
  go_ret2
  exact ⟨rfl, HB2.out⟩
 rw [decide_eq_true hv] at HH0
 have HH := Aside0.mk HH0
 clear HH0
 by_cases hs : areT l0_2 l2 = true
 case neg =>
  rw [if_neg (fun h_ : CarOk a0_0 a0_1 l0_2 a1 l2 => hs h_.1.2)] at h
  have HS : Aside0 (impl_areTurning.f 0 a0_0 a0_1 l0_2 l2 = some false) := ⟨congrArg some (Bool.eq_false_iff.2 hs)⟩
  cases h
  clear hv hs
  go_wp2_with (first | (go_at_call 73; (with_reducible refine (impl_validEntry.calls KH _ _ _ _ l0_2 _ true _ (Kd.C_below HC.out HB.out) HCC.out HH.out).mono ?_); rintro e w2 ⟨rfl, hb⟩; have B2 := Aside0.mk (blk_below BA.out hb); have HB2 := Aside0.mk (below_step HB.out hb); clear hb HB BA; have x0 := (blk_cell B2.out 0).trans rfl; have x1 := (blk_cell B2.out 1).trans rfl; have x2 := (blk_cell B2.out 2).trans rfl) | (go_at_call 61; (with_reducible refine (impl_areTurning.calls 0 _ _ _ _ l0_2 _ _ l2 false _ (Kd.C_below HC.out HB2.out) HCC.out (Kd.C_below H2.out HB2.out) HC2.out HS.out).mono ?_); rintro e w3 ⟨rfl, hb⟩; have B3 := Aside0.mk (blk_below B2.out hb); have HB3 := Aside0.mk (below_step HB2.out hb); clear hb HB2 B2 x0 x1 x2; have x0 := (blk_cell B3.out 0).trans rfl; have x1 := (blk_cell B3.out 1).trans rfl; have x2 := (blk_cell B3.out 2).trans rfl) | fail)
  go_ret2
  exact ⟨rfl, HB3.out⟩
 have HS : Aside0 (impl_areTurning.f 0 a0_0 a0_1 l0_2 l2 = some true) := ⟨congrArg some hs⟩
 have hch : ChoOk a0_0 a0_1 l0_2 l2 := ⟨hv.1, hs⟩
 rw [if_pos (show CarOk a0_0 a0_1 l0_2 a1 l2 from ⟨hch, hv.2⟩)] at h
 obtain ⟨hn1, hn5⟩ := hch.len
 obtain ⟨n, hn⟩ : ∃ n, n = l2.length := ⟨_, rfl⟩
 obtain ⟨N, hN⟩ : ∃ N : Nat, N = 2 ^ l2.length := ⟨_, rfl⟩
 have hN2 : 2 ≤ N ∧ N ≤ 32 := by rw [hN]; exact pow5 ⟨hn1, hn5⟩
 have es1 : IntKind.i64.wrap (2 ^ min l2.length 64) = (N : Int) := by rw [hN, Nat.min_eq_left (by omega)]; exact (pw5 ⟨hn1, hn5⟩).1
 have es2 := (i64_w _).symm.trans es1
 have eu : IntKind.u64.wrap (l2.length : Int) = (l2.length : Int) := (pw5 ⟨hn1, hn5⟩).2
 rw [← hN] at h
 obtain ⟨R, rfl⟩ : ∃ m : Nat, a0_0 = (m : Int) := ⟨a0_0.toNat, by have := hch.1.1.1; omega⟩
 obtain ⟨cn, rfl⟩ : ∃ m : Nat, a0_1 = (m : Int) := ⟨a0_1.toNat, by have := hch.1.2.1.1; omega⟩
 have HCH := Aside0.mk hch
 have HVV := Aside0.mk hv
 have HNE := Aside0.mk hN
 have HN2 := Aside0.mk hN2
 have hQ := h
 have HQ0 := Aside0.mk hQ
 clear hQ hch hv hs hn hN hn1 hn5 hN2 h
 go_wp2_with (first | (go_at_call 73; (with_reducible refine (impl_validEntry.calls KH _ _ _ _ l0_2 _ true _ (Kd.C_below HC.out HB.out) HCC.out HH.out).mono ?_); rintro e w2 ⟨rfl, hb⟩; have B2 := Aside0.mk (blk_below BA.out hb); have HB2 := Aside0.mk (below_step HB.out hb); clear hb HB BA; have x0 := (blk_cell B2.out 0).trans rfl; have x1 := (blk_cell B2.out 1).trans rfl; have x2 := (blk_cell B2.out 2).trans rfl) | (go_at_call 61; (with_reducible refine (impl_areTurning.calls 0 _ _ _ _ l0_2 _ _ l2 true _ (Kd.C_below HC.out HB2.out) HCC.out (Kd.C_below H2.out HB2.out) HC2.out HS.out).mono ?_); rintro e w3 ⟨rfl, hb⟩; have B3 := Aside0.mk (blk_below B2.out hb); have HB3 := Aside0.mk (below_step HB2.out hb); clear hb HB2 B2 x0 x1 x2; have x0 := (blk_cell B3.out 0).trans rfl; have x1 := (blk_cell B3.out 1).trans rfl; have x2 := (blk_cell B3.out 2).trans rfl) | fail)
 go_loopw [8, 9] (fun v8 v9 wr => ∃ (i : Nat) (a : Int), v9 = .int .i64 i ∧ v8 = .int .i64 a ∧ i ≤ N ∧ (-1 ≤ a ∧ a ≤ 32) ∧ Aside0 (addGo (R : Int) (cn : Int) l0_2 a1 l2 (N - i) i a = (r1, r2)) ∧ Aside0 (wr.heap[w.heap.size]? = some (.cells #[.int .i64 (R : Int), .int .i64 (cn : Int), .slice A0_2 l0_2.length c0_2] 24 (0, 0))) ∧ Aside0 (Below w.heap.size w wr)) (fun _ i _ => N - (intOf i).toNat)
 case atStart => exact ⟨0, -1, rfl, rfl, Nat.zero_le _, by omega, HQ0, B3, HB3⟩
 case round =>
  clear B3 HB3 HQ0 x0 x1 x2
  obtain ⟨i, a, rfl, rfl, hi, ha, HQ, B, HB⟩ := hrel
  have x0 := (blk_cell B.out 0).trans rfl
  have x1 := (blk_cell B.out 1).trans rfl
  have x2 := (blk_cell B.out 2).trans rfl
  have hN2 := HN2.out
  by_cases hil : i < N
  ·have hd : decide ((i : Int) < (N : Int)) = true := decide_eq_true (by omega)
   have hiv : i < 2 ^ l2.length := by rw [← HNE.out]; exact hil
   have hbo := withGo_ok HCH.out hiv
   obtain ⟨KW, hKW⟩ := withBits (R : Int) (cn : Int) (i : Int) l2 l0_2 HCH.out.len.2 HCH.out.1.len HCH.out.mem
   have HW := Aside0.mk (hKW KW (Nat.le_refl _))
   obtain ⟨lw, hlw⟩ : ∃ lw, lw = withGo (i : Int) 0 l2 l0_2 := ⟨_, rfl⟩
   rw [← hlw] at HW hbo
   obtain ⟨p, hp⟩ : ∃ p, p = fallV (R : Int) (cn : Int) l0_2 a1 l2 i := ⟨_, rfl⟩
   obtain ⟨gs, hgs⟩ : ∃ gs, gs = grpL R cn lw := ⟨_, rfl⟩
   have hgl : gs.length = R * cn := by rw [hgs]; exact grpL_len R cn lw
   have hpg : A.goC cn gs R 0 a1 0 lw = p := by rw [hp, hgs, hlw]; unfold fallV fallL; rw [Int.toNat_natCast, Int.toNat_natCast]
   have GG : Aside0 (impl_groupNumbers.f 0 (R : Int) (cn : Int) lw = some gs) := ⟨by unfold impl_groupNumbers.f; rw [if_pos hbo, Int.toNat_natCast, Int.toNat_natCast, hgs]⟩
   have hl0 : 0 < lw.length := by have h_ := bo_nat hbo; have h2_ : 1 * 1 ≤ R * cn := Nat.mul_le_mul (by have := hbo.1.1; omega) (by have := hbo.2.1.1; omega); omega
   have hbd := dV_bd (col := a1) HCH.out hiv
   have hbo2 := fallV_ok (col := a1) HCH.out hiv
   rw [← hp] at hbd hbo2
   obtain ⟨d, hd0⟩ : ∃ d, d = dV (R : Int) (cn : Int) l0_2 a1 l2 i := ⟨_, rfl⟩
   rw [← hd0] at hbd
   have hdd := hd0
   unfold dV at hdd
   rw [← hp, ← HNE.out] at hdd
   have DR : Aside0 (∀ (w0 w' : World) (g cap : Nat) (Ag : Option Addr) (cg : Nat), Below w0.heap.size w0 w' → Kd.R k71 71 w' w0.heap.size (fun k => k = g) (.slice (some ⟨g, 0, none⟩) lw.length cap) lw → (∀ W_, Kept w' W_ (fun k => k = g) → Kd.C (Kd.int .i64) W_ Ag gs.length gs) → gs.length ≤ cg → Calls Try.prog 76 #[.agg #[.int .i64 (R : Int), .int .i64 (cn : Int), .slice (some ⟨g, 0, none⟩) lw.length cap], .slice Ag gs.length cg, .int .i64 a1] w' fun e_ w'' => DropMade w0 w' (fun k => k = g) g lw.length cap p e_ w'') := ⟨fun w0 w' g cap Ag cg hB ho hG hgc => by have h_ := drop_own w0 w' (fun k => k = g) g lw.length cap R cn lw Ag cg gs a1 hB ho hG hgc hbo hgl HVV.out.2.1 HVV.out.2.2; rw [hpg] at h_; exact h_⟩
   have hq := HQ.out
   rw [show N - i = (N - (i + 1)) + 1 by omega] at hq
   unfold addGo at hq
   rw [← hd0] at hq
   obtain ⟨⟨q1, q2, q3⟩, cs⟩ := p
   simp only at DR hq hbd hbo2 hdd
   have HQ0 := Aside0.mk hq
   have HL0 := Aside0.mk hl0
   have hcl : ∀ x ∈ l2, 0 ≤ x ∧ x < cs.length := fun x hx => by rw [show cs.length = l0_2.length from Int.ofNat.inj (by rw [Int.ofNat_eq_natCast, Int.ofNat_eq_natCast, hbo2.2.2.1, HCH.out.1.2.2.1])]; exact HCH.out.mem x hx
   obtain ⟨KR, hKR⟩ := bitsValue (R : Int) (cn : Int) cs hbo2 l2 HCH.out.len.2 hcl
   have HRD := Aside0.mk (hKR KR (Nat.le_refl _))
   obtain ⟨vb, hvb⟩ : ∃ vb, vb = VB (bitF cs l2) l2.length := ⟨_, rfl⟩
   rw [← hvb] at HRD hbd hdd
   obtain ⟨s1, hs1⟩ : ∃ s1, s1 = vb - (i : Int) := ⟨_, rfl⟩
   obtain ⟨s2, hs2⟩ : ∃ s2, s2 = s1 + (N : Int) := ⟨_, rfl⟩
   have ev1 : IntKind.i64.wrap (vb - (i : Int)) = s1 := (IntWalk.i64_in _ (by omega)).trans hs1.symm
   have ew1 := (i64_w _).symm.trans ev1
   have ev2 : IntKind.i64.wrap (s1 + (N : Int)) = s2 := (IntWalk.i64_in _ (by clear ev1 ew1; omega)).trans hs2.symm
   have ew2 := (i64_w _).symm.trans ev2
   rw [← hs1, ← hs2] at hdd
   have ev3 : Int.tmod s2 (N : Int) = d := hdd.symm
   have ev4 : IntKind.i64.wrap d = d := IntWalk.i64_in _ (by clear ev1 ew1 ev2 ew2; omega)
   have ew4 := (i64_w _).symm.trans ev4
   have hN0 : ¬ (N = 0) := by clear ev1 ew1 ev2 ew2 ew4 ev4; omega
   have HBD := Aside0.mk hbd
   have HA := Aside0.mk ha
   clear hKR hvb hs1 hs2 hdd hd0 hbo2 hbd ha hcl
   clear hq hp hlw hbo hiv hKW HQ hgs hgl hpg hl0
   go_wp2_with (first | (go_at_call 65; (with_reducible refine (impl_withBits.calls KW _ _ _ _ l0_2 _ _ l2 _ _ _ lw _ (Kd.C_below HC.out HB.out) HCC.out (Kd.C_below H2.out HB.out) HC2.out HW.out).mono ?_); rintro e w4 ⟨vw, rfl, hR, hb⟩; obtain ⟨g, cap, ev, _, _, _⟩ := Kd.R_form hR HL0.out; subst ev; have HR := Aside0.mk (Kd.R_mono (ok' := fun k => k = g) (Kd.R_tight rfl hR) (fun k hk_ => by have h1_ : some k = some g := hk_; injection h1_)); have HZ := Aside0.mk hb; clear hb hR x0 x1 x2) | fail)
   have GX := Aside0.mk (blk_new w4 (.cells #[.int .i64 (R : Int), .int .i64 (cn : Int), .slice (some ⟨g, 0, none⟩) lw.length cap] 24))
   have HZ8 := Aside0.mk (below_alloc HZ.out (.cells #[.int .i64 (R : Int), .int .i64 (cn : Int), .slice (some ⟨g, 0, none⟩) lw.length cap] 24))
   have HR8 := Aside0.mk (Kd.R_below HR.out (below_alloc (Below.refl w4.heap.size w4) (.cells #[.int .i64 (R : Int), .int .i64 (cn : Int), .slice (some ⟨g, 0, none⟩) lw.length cap] 24)))
   have hlt := Kd.R_lt HR.out g rfl
   obtain ⟨gx, hgx⟩ : ∃ x, x = w4.heap.size := ⟨_, rfl⟩
   rw [← hgx] at GX hlt
   rw [← hgx]
   have NG : Aside0 (¬ gx = g) := ⟨by clear ew1 ev1 ew2 ev2 ew4 ev4; omega⟩
   generalize w4.alloc (.cells #[.int .i64 (R : Int), .int .i64 (cn : Int), .slice (some ⟨g, 0, none⟩) lw.length cap] 24) = w8 at GX HZ8 HR8 ⊢
   clear hlt hgx HZ HR
   refine start_ (n := 5) (S := fun w' => w'.cell? ⟨gx, 0, none⟩ = some (.int .i64 (R : Int)) ∧ w'.cell? ⟨gx, 1, none⟩ = some (.int .i64 (cn : Int)) ∧ w'.cell? ⟨gx, 2, none⟩ = some (.slice (some ⟨g, 0, none⟩) lw.length cap)) (ds := []) #[false,false,false,false,false] (by kernel_rfl) rfl rfl ⟨(blk_cell GX.out 0).trans rfl, (blk_cell GX.out 1).trans rfl, (blk_cell GX.out 2).trans rfl⟩ (fun hHeld => ?_)
   refine Own.anew_ (wN := w8) Own.bel hHeld (fun wy hzb hHeld => ?_)
   replace GX := Aside0.mk (blk_below GX.out hzb)
   have HR := Aside0.mk (Kd.R_below HR8.out hzb)
   have HZ := Aside0.mk (below_step HZ8.out hzb)
   clear hzb HR8 HZ8
   refine Own.tk_ (i := 0) (N := some 33) #[true,false,false,false,false] hHeld ?_
   refine Own.tk_ (i := 1) (N := some 34) #[true,true,false,false,false] hHeld ?_
   refine Own.pu_ (i := 3) (N := some 36) #[true,true,false,true,false] ?_
   refine one_ (i := 2) (N := some 35) #[true,true,true,true,false] rfl rfl (by kernel_rfl) (by decide) (fun K hK => ?_)
   refine goes_ Try.func77 (by kernel_rfl) rfl #[.agg #[.int .i64 (R : Int), .int .i64 (cn : Int), .slice (some ⟨g, 0, none⟩) lw.length cap]] (by rfl) rfl rfl Own.mapd ?_
   with_reducible refine (impl_groupNumbers.calls 0 _ _ _ _ lw gs _ (Kd.R_reads' HR.out).2.2 (Kd.R_reads' HR.out).2.1 GG.out).mono ?_
   rintro e w1 ⟨v, rfl, hG, hb⟩
   refine ⟨_, rfl, ?_⟩
   obtain ⟨Ag, cg, eg⟩ := Kd.R_slice hG
   subst eg
   have HG := Aside0.mk (Kd.R_mono (ok' := fun k => k ≠ g) (Kd.R_lower (Kd.R_new' hG (Kd.R_lt HR.out)) HZ.out.size) (fun k hk_ e_ => hk_.2 (by rw [e_]; rfl)))
   replace HR := Aside0.mk (Kd.R_below HR.out hb)
   replace GX := Aside0.mk (blk_below GX.out hb)
   replace HZ := Aside0.mk (below_step HZ.out hb)
   clear hb hG
   refine hK.out _ _ ⟨(blk_cell GX.out 0).trans rfl, (blk_cell GX.out 1).trans rfl, (blk_cell GX.out 2).trans rfl⟩ (fun hHeld => ?_)
   clear hK K
   refine Own.nm_ (some 35) ?_
   refine one_ (i := 4) (N := some 37) #[true,true,true,true,true] rfl rfl (by kernel_rfl) (by decide) (fun K hK => ?_)
   refine goes_ Try.func76 (by kernel_rfl) rfl #[.agg #[.int .i64 (R : Int), .int .i64 (cn : Int), .slice (some ⟨g, 0, none⟩) lw.length cap], .slice Ag gs.length cg, .int .i64 a1] (by rfl) rfl rfl Own.mapd ?_
   with_reducible refine (DR.out wr _ g cap Ag cg HZ.out HR.out (Kd.C_kept_own HG.out (fun k hk_ => hk_)) (Kd.R_reads' HG.out).2.1).mono ?_
   rintro e w1 ⟨vw, rfl, hRd, hb, hk⟩
   refine ⟨_, rfl, ?_⟩
   replace GX := Aside0.mk (blk_kept GX.out hk NG.out)
   replace HZ := Aside0.mk hb
   have HRd := Aside0.mk hRd
   clear hb hk HR HG hRd
   refine hK.out _ _ ⟨(blk_cell GX.out 0).trans rfl, (blk_cell GX.out 1).trans rfl, (blk_cell GX.out 2).trans rfl⟩ (fun hHeld => ?_)
   clear hK K
   refine Own.nm_ (some 37) ?_
   refine done_ (by kernel_rfl) ?_
   clear hHeld DR GG
   have hcs : lw.length = cs.length := (Kd.R_reads' HRd.out).1
   rw [hcs] at GX HRd ⊢
   clear hcs HW HL0
   go_wp2
   refine start_ (n := 14) (S := fun w' => w'.cell? ⟨gx, 0, none⟩ = some (.int .i64 (R : Int)) ∧ w'.cell? ⟨gx, 1, none⟩ = some (.int .i64 (cn : Int)) ∧ w'.cell? ⟨gx, 2, none⟩ = some (.slice (some ⟨g, 0, none⟩) cs.length cap)) (ds := []) #[false,false,false,false,false,false,false,false,false,false,false,false,false,false] (by kernel_rfl) rfl rfl ⟨(blk_cell GX.out 0).trans rfl, (blk_cell GX.out 1).trans rfl, (blk_cell GX.out 2).trans rfl⟩ (fun hHeld => ?_)
   refine Own.anew_ (wN := w1) Own.bel hHeld (fun wz hzb hHeld => ?_)
   replace GX := Aside0.mk (blk_below GX.out hzb)
   have HR := Aside0.mk (Kd.R_below HRd.out hzb)
   replace HZ := Aside0.mk (below_step HZ.out hzb)
   clear hzb HRd
   refine Own.tk_ (i := 0) (N := some 38) #[true,false,false,false,false,false,false,false,false,false,false,false,false,false] hHeld ?_
   refine Own.pu_ (i := 1) (N := some 39) #[true,true,false,false,false,false,false,false,false,false,false,false,false,false] ?_
   refine Own.pu_ (i := 3) (N := some 41) #[true,true,false,true,false,false,false,false,false,false,false,false,false,false] ?_
   refine Own.pu_ (i := 5) (N := some 43) #[true,true,false,true,false,true,false,false,false,false,false,false,false,false] ?_
   refine Own.pu_ (i := 6) (N := some 44) #[true,true,false,true,false,true,true,false,false,false,false,false,false,false] ?_
   refine Own.pu_ (i := 7) (N := some 45) #[true,true,false,true,false,true,true,true,false,false,false,false,false,false] ?_
   refine Own.pu_ (i := 9) (N := some 47) #[true,true,false,true,false,true,true,true,false,true,false,false,false,false] ?_
   refine Own.pu_ (i := 10) (N := some 48) #[true,true,false,true,false,true,true,true,false,true,true,false,false,false] ?_
   refine Own.pu_ (i := 11) (N := some 49) #[true,true,false,true,false,true,true,true,false,true,true,true,false,false] ?_
   refine one_ (i := 2) (N := some 40) #[true,true,true,true,false,true,true,true,false,true,true,true,false,false] rfl rfl (by kernel_rfl) (by decide) (fun K hK => ?_)
   refine goes_ Try.func62 (by kernel_rfl) rfl #[.agg #[.int .i64 (R : Int), .int .i64 (cn : Int), .slice (some ⟨g, 0, none⟩) cs.length cap], .slice A2 l2.length c2] (by rfl) rfl rfl Own.mapd ?_
   with_reducible refine (impl_bitsValue.calls KR _ _ _ _ cs _ _ l2 _ _ (Kd.R_reads' HR.out).2.2 (Kd.R_reads' HR.out).2.1 (Kd.C_below H2.out (below_step HB.out HZ.out)) HC2.out HRD.out).mono ?_
   rintro e w1 ⟨rfl, hb⟩
   refine ⟨_, rfl, ?_⟩
   replace GX := Aside0.mk (blk_below GX.out hb)
   replace HZ := Aside0.mk (below_step HZ.out hb)
   clear hb HR
   refine hK.out _ _ ⟨(blk_cell GX.out 0).trans rfl, (blk_cell GX.out 1).trans rfl, (blk_cell GX.out 2).trans rfl⟩ (fun hHeld => ?_)
   clear hK K
   refine Own.nm_ (some 40) ?_
   refine Own.pu_ (i := 4) (N := some 42) #[true,true,true,true,true,true,true,true,false,true,true,true,false,false] ?_
   refine Own.pu_ (i := 8) (N := some 46) #[true,true,true,true,true,true,true,true,true,true,true,true,false,false] ?_
   refine Own.pu_ (i := 12) (N := some 50) #[true,true,true,true,true,true,true,true,true,true,true,true,true,false] ?_
   refine Own.pu_ (i := 13) (N := some 11) #[true,true,true,true,true,true,true,true,true,true,true,true,true,true] ?_
   refine done_ (by kernel_rfl) ?_
   clear hHeld GX NG
   have B9 := Aside0.mk (blk_below B.out HZ.out)
   have HB9 := Aside0.mk (below_step HB.out HZ.out)
   clear HZ B HB
   by_cases h0 : 0 ≤ a
   case neg =>
    have hq := HQ0.out
    rw [if_neg (fun h_ => h0 h_.1)] at hq
    have d0 : decide (0 ≤ a) = false := decide_eq_false h0
    clear h0
    have HQ := Aside0.mk hq
    clear hq HQ0
    go_wp2
    go_roundw
    case rel => first | exact ⟨i + 1, d, by go_num, rfl, by omega, by have := HBD.out; omega, HQ, B9, HB9⟩ | ((repeat apply Exists.intro); exact ⟨⟨i + 1, d, by go_num, rfl, by omega, by have := HBD.out; omega, HQ, B9, HB9⟩, rfl⟩)
    case measure => simp [intOf]; omega
   have d0 : decide (0 ≤ a) = true := decide_eq_true h0
   by_cases h1 : a = d
   case pos =>
    have hq := HQ0.out
    rw [if_neg (fun h_ => h_.2 h1)] at hq
    subst h1
    clear h0
    have HQ := Aside0.mk hq
    clear hq HQ0
    go_wp2
    go_roundw
    case rel => first | exact ⟨i + 1, a, by go_num, rfl, by omega, by have := HBD.out; omega, HQ, B9, HB9⟩ | ((repeat apply Exists.intro); exact ⟨⟨i + 1, a, by go_num, rfl, by omega, by have := HBD.out; omega, HQ, B9, HB9⟩, rfl⟩)
    case measure => simp [intOf]; omega
   have hq := HQ0.out
   rw [if_pos ⟨h0, h1⟩] at hq
   cases hq
   have b1 : (d != a) = true := by simp [Ne.symm h1]
   have b2 : (d == a) = false := beq_false_of_ne (Ne.symm h1)
   clear HQ0 h0
   go_wp2
   go_ret2
   exact ⟨rfl, HB9.out⟩
  ·have hd : decide ((i : Int) < (N : Int)) = false := decide_eq_false (by omega)
   obtain rfl : i = N := by omega
   have hq := HQ.out
   rw [Nat.sub_self] at hq
   unfold addGo at hq
   cases hq
   go_wp2
   go_ret2
   exact ⟨rfl, HB.out⟩
end Go.Proofs.Ytcilbmbgdcepgaa.P
