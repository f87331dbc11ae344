/- The walk of spec.flGo (printed by gen_flgo.py). -/
import Derived.Test.YtcilbmbgdcepgaaYFnExactAddsWithAFall
import Derived.Test.YtcilbmbgdcepgaaYFnExactAddsWithVPass
import Derived.Test.YtcilbmbgdcepgaaOwnW
import Derived.Test.YtcilbmbgdcepgaaYFnExactAddsWithPx71
import Derived.Test.YtcilbmbgdcepgaaYFnExactAddsWithPx72
import Derived.Test.YtcilbmbgdcepgaaYFnExactAddsWithPx74
import Derived.Test.YtcilbmbgdcepgaaZFnExactAddsWith0
namespace Go.Proofs.Ytcilbmbgdcepgaa.P
open Go.RowKit YtcilbmbgdcepgaaW.PrintWords YtcilbmbgdcepgaaW.PrintLast YtcilbmbgdcepgaaW.PrintMore Own A
set_option linter.unusedVariables false
set_option linter.unusedSimpArgs false
/-- The boxes, the cells that are the call's own, the way so far. -/
structure GoS (w W : World) (bv ov : Array Value) (go g n cap : Nat) (vw : Value) (ws : List (List Int)) (cs : List S71) : Prop where
 bA : W.heap[w.heap.size]? = some (.cells bv 24 (0, 0))
 bF : W.heap[w.heap.size + 1]? = some (.cells #[.int .i64 0, .int .i64 0, .int .i64 0] 81 (0, 0))
 bB : W.heap[w.heap.size + 2]? = some (.cells #[.int .i64 0, .int .i64 0, .slice none 0 0] 24 (0, 0))
 bO : W.heap[go]? = some (.cells ov 24 (0, 0))
 lo : w.heap.size + 2 < go
 ro : Kd.R k71 71 W w.heap.size (fun k => k = g) (.slice (some ⟨g, 0, none⟩) n cap) cs
 wy : Kd.S (Kd.slice 3 (Kd.int .i64)) 39 W w.heap.size (fun k => k ≠ g) vw ws
 be : Below w.heap.size w W
section
variable {w W W1 : World} {bv ov : Array Value} {go g n cap : Nat} {vw : Value} {ws ws1 : List (List Int)} {cs cs1 : List S71}
theorem GoS.below (h : GoS w W bv ov go g n cap vw ws cs) (hb : Below W.heap.size W W1) : GoS w W1 bv ov go g n cap vw ws cs := ⟨blk_below h.bA hb, blk_below h.bF hb, blk_below h.bB hb, blk_below h.bO hb, h.lo, Kd.R_below h.ro hb, Kd.S_below h.wy hb, below_step h.be hb⟩
theorem GoS.ng {k t : Nat} {c : Array Value} (h : GoS w W bv ov go g n cap vw ws cs) (hb : W.heap[k]? = some (.cells c t (0, 0))) (ht : 71 ≠ t) : ¬ (k = g) := fun e_ => by
 have h1 : some k ≠ some g := Kd.R_ne h.ro hb ht
 exact h1 (by rw [e_])
theorem GoS.pass (h : GoS w W bv ov go g n cap vw ws cs) (hR : Kd.R k71 71 W1 w.heap.size (fun k_ => (k_ = g ∨ W.heap.size ≤ k_)) (.slice (some ⟨g, 0, none⟩) n cap) cs1) (hb : Below w.heap.size w W1) (hk : Kept W W1 (fun k_ => k_ = g)) : GoS w W1 bv ov go g n cap vw ws cs1 :=
 ⟨blk_kept h.bA hk (h.ng h.bA (by decide)), blk_kept h.bF hk (h.ng h.bF (by decide)), blk_kept h.bB hk (h.ng h.bB (by decide)), blk_kept h.bO hk (h.ng h.bO (by decide)), h.lo, Kd.R_mono (Kd.R_tight rfl hR) (fun k hk_ => by have h1 : some k = some g := hk_; injection h1), Kd.S_kept h.wy hk (fun _ hk_ => hk_), hb⟩
theorem GoS.app {v1 : Value} (h : GoS w W bv ov go g n cap vw ws cs) (hS : Kd.S (Kd.slice 3 (Kd.int .i64)) 39 W1 w.heap.size (fun k => k ≠ g) v1 ws1) (hb : Below w.heap.size w W1) (hg : W.grownBy W1 vw.ownBlock) : GoS w W1 bv ov go g n cap v1 ws1 cs :=
 ⟨blk_grown h.bA hg (Kd.S_ne h.wy h.bA (by decide)), blk_grown h.bF hg (Kd.S_ne h.wy h.bF (by decide)), blk_grown h.bB hg (Kd.S_ne h.wy h.bB (by decide)), blk_grown h.bO hg (Kd.S_ne h.wy h.bO (by decide)), h.lo, Kd.R_grown h.ro hg (fun k hk => by rw [hk]; exact Kd.S_away h.wy (fun _ hk_ => hk_)), hS, hb⟩
end
/-- What comes back: the end, the board after it in memory of its own, and some list. -/
def GoMade (w : World) (R cn : Nat) (p : (Int × Int × Int) × List S71) (e_ : Ending) (w' : World) : Prop := ∃ v vw : Value, e_ = .returned (.tuple #[.agg #[.int .i64 p.1.1, .int .i64 p.1.2.1, .int .i64 p.1.2.2], .agg #[.int .i64 (R : Int), .int .i64 (cn : Int), v], vw]) ∧ Kd.R k71 71 w' w.heap.size (fun _ => True) v p.2 ∧ Below w.heap.size w w'
/-! ### spec_flGo: function 92 -/
def spec_flGo.f : Unit := ()
theorem spec_flGo.calls : spec_flGo.f = () := rfl
set_option maxHeartbeats 16000000 in
set_option maxRecDepth 100000 in
theorem flGo_own (R cn : Nat) (A0 : Option Addr) (c0 : Nat) (l0 : List S71) (A1 : Option Addr) (c1 : Nat) (gs : List Int) (col0 : Int) (w : World) (hC : Kd.C k71 w A0 l0.length l0) (hc : l0.length ≤ c0) (hG : Kd.C (Kd.int .i64) w A1 gs.length gs) (hgc : gs.length ≤ c1) (hb : BoOk (R : Int) (cn : Int) l0) (hgl : gs.length = R * cn) (h0 : 0 ≤ col0) (h1 : col0 < (cn : Int)) :
  Calls Try.prog 92 #[.agg #[.int .i64 (R : Int), .int .i64 (cn : Int), .slice A0 l0.length c0], .slice A1 gs.length c1, .int .i64 col0] w fun e_ w' => GoMade w R cn (goC cn gs R 0 col0 0 l0) e_ w' := by
 have hu24 := Try.underlying24
 have hu65 := Try.underlying81
 have hu71 := Try.underlying71
 have HC := Aside0.mk hC
 have HCC := Aside0.mk hc
 have HG := Aside0.mk hG
 have HGC := Aside0.mk hgc
 have HGL := Aside0.mk hgl
 have hR10 : R ≤ 10 := by have := hb.1.2; omega
 have hc9 : cn ≤ 9 := by have := hb.2.1.2; omega
 have hl90 := hb.len
 have HBO := Aside0.mk hb
 have hl0 : 0 < l0.length := by have h_ := bo_nat hb; have h2_ : 1 * 1 ≤ R * cn := Nat.mul_le_mul (by have := hb.1.1; omega) (by have := hb.2.1.1; omega); omega
 obtain ⟨Q, hQ⟩ : ∃ Q, goC cn gs R 0 col0 0 l0 = Q := ⟨_, rfl⟩
 rw [hQ]
 have HQ0 : Aside0 (goC cn gs (R - 0) 0 col0 0 l0 = Q) := ⟨hQ⟩
 have OW : Aside0 (spec_boOwn.f (R : Int) (cn : Int) l0 = some ((R : Int), (cn : Int), l0)) := ⟨by unfold spec_boOwn.f; rw [Option.bind_some, if_pos (by simp; omega)]; rfl⟩
 have z1 : (w.alloc (.cells #[.int .i64 (R : Int), .int .i64 (cn : Int), .slice A0 l0.length c0] 24)).heap.size = w.heap.size + 1 := Array.size_push _
 have z2 : ((w.alloc (.cells #[.int .i64 (R : Int), .int .i64 (cn : Int), .slice A0 l0.length c0] 24)).alloc (.cells #[.int .i64 0, .int .i64 0, .int .i64 0] 81)).heap.size = w.heap.size + 2 := (Array.size_push _).trans (by rw [z1])
 have BA := Aside0.mk (blk_alloc (blk_alloc (blk_new w (.cells #[.int .i64 (R : Int), .int .i64 (cn : Int), .slice A0 l0.length c0] 24)) (.cells #[.int .i64 0, .int .i64 0, .int .i64 0] 81)) (.cells #[.int .i64 0, .int .i64 0, .slice none 0 0] 24))
 have BF := Aside0.mk (blk_alloc (blk_new (w.alloc (.cells #[.int .i64 (R : Int), .int .i64 (cn : Int), .slice A0 l0.length c0] 24)) (.cells #[.int .i64 0, .int .i64 0, .int .i64 0] 81)) (.cells #[.int .i64 0, .int .i64 0, .slice none 0 0] 24))
 have BB := Aside0.mk (blk_new ((w.alloc (.cells #[.int .i64 (R : Int), .int .i64 (cn : Int), .slice A0 l0.length c0] 24)).alloc (.cells #[.int .i64 0, .int .i64 0, .int .i64 0] 81)) (.cells #[.int .i64 0, .int .i64 0, .slice none 0 0] 24))
 rw [z1] at BF
 rw [z2] at BB
 have HB0 := Aside0.mk (below_alloc (below_alloc (below_alloc (Below.refl w.heap.size w) (.cells #[.int .i64 (R : Int), .int .i64 (cn : Int), .slice A0 l0.length c0] 24)) (.cells #[.int .i64 0, .int .i64 0, .int .i64 0] 81)) (.cells #[.int .i64 0, .int .i64 0, .slice none 0 0] 24))
 clear hC hc hG hgc hb hgl hQ z1 z2
 go_enter Try.func92, Try.ntmps92
 go_wp2_with (first
  | (go_at_call 89; (with_reducible refine (spec_boOwn.calls _ _ _ _ l0 _ _ l0 _ (Kd.C_below HC.out HB0.out) HCC.out OW.out).mono ?_); rintro e w4 ⟨v, rfl, hR, hbb⟩; obtain ⟨g, cap, ev, _, hgs, _⟩ := Kd.R_form hR hl0; subst ev; have LG : Aside0 (g < w4.heap.size) := ⟨hgs⟩; have BA4 := Aside0.mk (blk_below BA.out hbb); have BF4 := Aside0.mk (blk_below BF.out hbb); have BB4 := Aside0.mk (blk_below BB.out hbb); have HR4 := Aside0.mk (Kd.R_mono (ok' := fun k => k = g) (Kd.R_tight rfl (Kd.R_lower hR HB0.out.size)) (fun k hk_ => by have h1_ : some k = some g := hk_; injection h1_)); have HB4 := Aside0.mk (below_step HB0.out hbb); clear hR hbb BA BF BB HB0)
  | fail)
 obtain ⟨n, hn⟩ : ∃ n, n = l0.length := ⟨_, rfl⟩
 rw [← hn] at HR4
 have HS0 : Aside0 (GoS w (w4.alloc (.cells #[.int .i64 (R : Int), .int .i64 (cn : Int), .slice (some ⟨g, 0, none⟩) n cap] 24)) #[.int .i64 (R : Int), .int .i64 (cn : Int), .slice A0 l0.length c0] #[.int .i64 (R : Int), .int .i64 (cn : Int), .slice (some ⟨g, 0, none⟩) n cap] w4.heap.size g n cap (.slice none 0 0) [] l0) := ⟨⟨blk_alloc BA4.out _, blk_alloc BF4.out _, blk_alloc BB4.out _, blk_new w4 _, blk_lt BB4.out, Kd.R_below HR4.out (below_alloc (Below.refl _ _) _), Kd.S_nil _ _ _ _ _, below_alloc HB4.out _⟩⟩
 clear BA4 BF4 BB4 HR4 HB4
 obtain ⟨go, hgo⟩ : ∃ go, go = w4.heap.size := ⟨_, rfl⟩
 rw [← hgo] at HS0
 rw [← hgo]
 have HNL := Aside0.mk hn
 subst hn
 clear hgo
 generalize w4.alloc (.cells #[.int .i64 (R : Int), .int .i64 (cn : Int), .slice (some ⟨g, 0, none⟩) l0.length cap] 24) = w5 at HS0 ⊢
 go_loopw [2, 10, 11, 12] (fun v2 v10 v11 v12 wr => ∃ (row : Nat) (col side : Int) (ws : List (List Int)) (cs : List S71), v2 = .int .i64 col ∧ v11 = .int .i64 side ∧ v12 = .int .i64 row ∧ row ≤ R ∧ (0 ≤ col ∧ col < (cn : Int)) ∧ (-1 ≤ side ∧ side ≤ 1) ∧ ws.length ≤ row ∧ Aside0 (goC cn gs (R - row) row col side cs = Q) ∧ Aside0 (BoOk (R : Int) (cn : Int) cs) ∧ Aside0 (GoS w wr #[.int .i64 (R : Int), .int .i64 (cn : Int), .slice A0 l0.length c0] #[.int .i64 (R : Int), .int .i64 (cn : Int), .slice (some ⟨g, 0, none⟩) l0.length cap] go g l0.length cap (v10) ws cs)) (fun _ _ _ v12 _ => R - (intOf v12).toNat)
 case atStart => exact ⟨0, col0, 0, [], l0, rfl, rfl, rfl, Nat.zero_le _, ⟨h0, h1⟩, ⟨by decide, by decide⟩, Nat.le_refl _, HQ0, HBO, HS0⟩
 case round =>
  clear HQ0 HBO HS0 h0 h1 HNL
  obtain ⟨row, col, side, ws, cs, rfl, rfl, rfl, hrow, ⟨h0, h1⟩, hsd, hws, HQ, HBO, HS⟩ := hrel
  obtain ⟨Aw, cw, ew⟩ := Kd.S_slice HS.out.wy
  subst ew
  have p0 : wr.cell? ⟨w.heap.size, 0, none⟩ = some (.int .i64 (R : Int)) := (blk_cell HS.out.bA 0).trans rfl
  have p1 : wr.cell? ⟨w.heap.size, 1, none⟩ = some (.int .i64 (cn : Int)) := (blk_cell HS.out.bA 1).trans rfl
  have hcsl := bo_nat HBO.out
  have hcl : cs.length = l0.length := (Kd.R_reads' HS.out.ro).1.symm
  by_cases hlt : row < R
  ·have hwat := wrap_at hlt hR10 hc9 h0 h1
   obtain ⟨i, hi⟩ : ∃ i, i = row * cn + col.toNat := ⟨_, rfl⟩
   rw [← hi] at hwat
   obtain ⟨hwa, hwl⟩ := hwat
   have HWA := Aside0.mk hwa
   have hil : i < l0.length := by rw [← hcl, hcsl]; exact hwl
   clear hwa
   obtain ⟨d, hd⟩ : ∃ d, R - row = d + 1 := ⟨R - row - 1, by omega⟩
   have hd2 : d = R - (row + 1) := by omega
   have hq := HQ.out
   rw [hd, goC] at hq
   simp only at hq
   rw [← hi] at hq
   obtain ⟨x, hx⟩ : ∃ x_, x_ = cs.getD i ⟨0, 0⟩ := ⟨_, rfl⟩
   have hok : CellOk x.f0 x.f1 := by rw [hx]; exact getD_ok HBO.out.2.2.2 i
   have hlo := goesC_lo hok hsd
   rw [← hx] at hq
   have hat : spec_boAt.f (R : Int) (cn : Int) cs (row : Int) col = some (x.f0, x.f1) := by
    unfold spec_boAt.f
    rw [HWA.out, if_pos (Int.natCast_nonneg i), if_pos (by rw [hcl]; exact Int.ofNat_lt.2 hil), rdc, ← hx]
   have hpass : spec_flPass.f 0 (R : Int) (cn : Int) cs gs (wrap64 (wrap64 ((row : Int) * (cn : Int)) + col)) = some (passC gs cs i) := by
    unfold spec_flPass.f
    rw [HWA.out, if_pos ⟨⟨by rw [hcl]; exact Nat.le_trans hl90 (by decide), HBO.out.2.2.2⟩, HGL.out.trans hcsl.symm, Int.natCast_nonneg i, by rw [hcl]; exact Int.ofNat_lt.2 hil⟩, Int.toNat_natCast]
   have HAT := Aside0.mk hat
   have HPA := Aside0.mk hpass
   have HOK := Aside0.mk hok
   have HD := Aside0.mk hd2
   have hw17 : ws.length ≤ 10 := by omega
   obtain ⟨kx, sx⟩ := x
   simp only at hq HAT HOK
   obtain ⟨gx, hgx⟩ : ∃ gx, gx = goesC ⟨kx, sx⟩ side := ⟨_, rfl⟩
   rw [← hgx] at hq hlo
   have HGX := Aside0.mk hgx
   have ew2 : IntKind.i64.wrap (col + gx) = col + gx := IntWalk.i64_in _ (by omega)
   have ew3 : IntKind.i64.wrap (-gx) = -gx := IntWalk.i64_in _ (by clear ew2; omega)
   have ew4 : IntKind.i64.wrap ((cn : Int) - 1) = (cn : Int) - 1 := IntWalk.i64_in _ (by clear ew2 ew3; omega)
   have ev2 := (i64_w _).symm.trans ew2
   have ev3 := (i64_w _).symm.trans ew3
   have ev4 := (i64_w _).symm.trans ew4
   have hL1 := in_f (col + gx) 0 ((cn : Int) - 1)
   have HL1 := Aside0.mk hL1
   have o0 : wr.cell? ⟨go, 0, none⟩ = some (.int .i64 (R : Int)) := (blk_cell HS.out.bO 0).trans rfl
   have o1 : wr.cell? ⟨go, 1, none⟩ = some (.int .i64 (cn : Int)) := (blk_cell HS.out.bO 1).trans rfl
   have o2 : wr.cell? ⟨go, 2, none⟩ = some (.slice (some ⟨g, 0, none⟩) l0.length cap) := (blk_cell HS.out.bO 2).trans rfl
   clear hat hpass hok hd hd2 hi hx hgx hL1 hwl HQ
   have hcap : cs.length ≤ cap := by rw [hcl]; exact (Kd.R_reads' HS.out.ro).2.1
   have BATC : Aside0 (∀ w', Kd.C k71 w' (some ⟨g, 0, none⟩) cs.length cs → Calls Try.prog 101 #[.agg #[.int .i64 (R : Int), .int .i64 (cn : Int), .slice (some ⟨g, 0, none⟩) l0.length cap], .int .i64 (row : Int), .int .i64 col] w' fun e w'' => e = .returned (.agg #[.int .i64 kx, .int .i64 sx]) ∧ Below w'.heap.size w' w'') := ⟨by intro w' hC'; have h_ := spec_boAt.calls (R : Int) (cn : Int) (some ⟨g, 0, none⟩) cap cs (row : Int) col kx sx w' hC' hcap HAT.out; rw [hcl] at h_; exact h_⟩
   clear hcap
   by_cases h5 : kx = 5
   ·subst h5
    rw [if_pos rfl] at hq
    subst hq
    go_wp2_with (first
     | ((with_reducible refine gate_dst (N := 26) rfl ?_); refine Kd.R_lit (Kd.int .i64) (w0 := w) w.heap.size 3 ?hg (N := 26) ?hd (xs := ([(row : Int), col] : List Int)) (inner := [.int .i64 (row : Int), .int .i64 col]) (ok := fun k_ => True) (okp := fun _ => False) ?hr ?hp (fun _ hk => hk.elim) trivial HS.out.be HS.out.be.size (by simp) ?_; (case hd => rfl); (case hg => rfl); (case hr => first | (go_simp; done) | (go_simp; rfl)); (case hp => exact (Reps.one (show Kd.M (Kd.int .i64) _ _ _ (row : Int) [.int .i64 (row : Int)] from rfl) (Reps.one (show Kd.M (Kd.int .i64) _ _ _ col [.int .i64 col] from rfl) (Reps.none _ _)))); intro vi w6 hR hb hg_ hnew; obtain ⟨Ai, ci, ei⟩ := Kd.R_slice hR; replace ei : vi = .slice Ai 2 ci := ei; subst ei; have NI : Aside0 (∀ k_, (Value.slice Ai 2 ci).ownBlock = some k_ → wr.heap.size ≤ k_) := ⟨fun k_ hk => by obtain ⟨b_, hb_, hle⟩ := hnew; rw [hb_] at hk; injection hk with hk; omega⟩; have LGW : Aside0 (g < wr.heap.size) := ⟨Kd.R_lt HS.out.ro g rfl⟩; have WY6 := Aside0.mk (Kd.S_elder' HS.out.wy NI.out (below_of_grown hg_)); have WL : Aside0 (∀ k_, (Value.slice Aw ws.length cw).ownBlock = some k_ → k_ < wr.heap.size) := ⟨Kd.S_lt HS.out.wy⟩; have HI := Aside0.mk (Kd.R_tight rfl hR); have HS6 := Aside0.mk (HS.out.below (below_of_grown hg_)); clear hR hb hg_ hnew HS p0 p1 o0 o1 o2)
     | ((with_reducible refine gate_builtin (b := .append) (xs := #[.tmp 23, .tmp 27]) rfl ?_); at_builtin; refine Kd.S_append (Kd.slice 3 (Kd.int .i64)) (w0 := w) w.heap.size rfl (.tmp 23) (.tmp 27) 101 39 (.slice none 0 0) 24 rfl Try.underlying101 info39 rfl (by decide) (by omega) (.slice Aw ws.length cw) ws [(row : Int), col] [.slice Ai 2 ci] (fun k_ => k_ ≠ g) (fun k_ => some k_ = (Value.slice Ai 2 ci).ownBlock) rfl rfl ?aP ?aK ?aF ?aO ?aB ?aS ?aL ?_; (case aP => exact ⟨_, rfl, HI.out⟩); (case aK => exact (fun k_ hk => ⟨fun e_ => by have h1_ := NI.out k_ hk.symm; have h2_ := LGW.out; omega, fun e_ => by have h1_ := NI.out k_ hk.symm; have h2_ := WL.out k_ e_.symm; omega⟩)); (case aF => exact (fun k_ hk e_ => by have h1_ := Kd.R_lt HS6.out.ro g rfl; omega)); (case aO => exact WY6.out); (case aB => exact HS6.out.be); (case aS => exact HS6.out.be.size); (case aL => omega); intro v9 w9 hS hb hg_ hat; have HS9 := Aside0.mk (HS6.out.app hS hb hg_); obtain ⟨Aw9, cw9, ew9⟩ := Kd.S_slice HS9.out.wy; rw [List.length_append, List.length_singleton] at ew9; subst ew9; have o0 := (blk_cell HS9.out.bO 0).trans rfl; have o1 := (blk_cell HS9.out.bO 1).trans rfl; have o2 := (blk_cell HS9.out.bO 2).trans rfl; clear hS hb hg_ hat HS6 WY6 NI LGW WL HI)
     | (go_at_call 101; (with_reducible refine (BATC.out _ (Kd.R_reads' HS9.out.ro).2.2).mono ?_); rintro e w10 ⟨rfl, hb⟩; have HS10 := Aside0.mk (HS9.out.below hb); clear hb HS9 o0 o1 o2)
     | fail)
    have HSR := Aside0.mk (HS10.out.below (below_alloc (Below.refl _ _) (.cells #[.int .i64 5, .int .i64 sx] 71)))
    generalize w10.alloc (.cells #[.int .i64 5, .int .i64 sx] 71) = w11 at HSR ⊢
    clear HS10
    refine start_ (n := 8) (S := fun w' => w'.cell? ⟨go, 0, none⟩ = some (.int .i64 (R : Int)) ∧ w'.cell? ⟨go, 1, none⟩ = some (.int .i64 (cn : Int)) ∧ w'.cell? ⟨go, 2, none⟩ = some (.slice (some ⟨g, 0, none⟩) l0.length cap)) (ds := [6]) #[false,false,false,false,false,false,false,false] (by kernel_rfl) rfl rfl ⟨(blk_cell HSR.out.bO 0).trans rfl, (blk_cell HSR.out.bO 1).trans rfl, (blk_cell HSR.out.bO 2).trans rfl⟩ (fun hHeld => ?_)
    refine Own.anew_ (wN := w11) Own.bel hHeld (fun wy hzb hHeld => ?_)
    have HT := Aside0.mk (HSR.out.below hzb)
    clear hzb HSR
    refine Own.pu_ (i := 0) (N := some 36) #[true,false,false,false,false,false,false,false] ?_
    refine Own.pu_ (i := 1) (N := some 37) #[true,true,false,false,false,false,false,false] ?_
    refine Own.pu_ (i := 2) (N := some 38) #[true,true,true,false,false,false,false,false] ?_
    refine Own.tk_ (i := 3) (N := some 39) #[true,true,true,true,false,false,false,false] hHeld ?_
    refine Own.pu_ (i := 4) (N := some 40) #[true,true,true,true,true,false,false,false] ?_
    have s10 := (blk_cell HT.out.bF 0).trans rfl
    have s11 := (blk_cell HT.out.bF 1).trans rfl
    have s12 := (blk_cell HT.out.bF 2).trans rfl
    have f10 := blk_frozen HT.out.bF 0
    have f11 := blk_frozen HT.out.bF 1
    have f12 := blk_frozen HT.out.bF 2
    refine one_ (i := 5) (N := none) #[true,true,true,true,true,true,false,false] rfl rfl (by kernel_rfl) (by decide) (fun K hK => ?_)
    refine skip_ (w1 := (((wy.setCell ⟨w.heap.size + 1, 0, none⟩ (.int .i64 2)).setCell ⟨w.heap.size + 1, 1, none⟩ (.int .i64 (row : Int))).setCell ⟨w.heap.size + 1, 2, none⟩ (.int .i64 col))) (by rfl) rfl ?_ ?_
    ·first | (go_simp; done) | (go_simp; rfl)
    have ng1 : go ≠ w.heap.size + 1 := by have := HT.out.lo; omega
    have ng2 : go ≠ w.heap.size + 2 := by have := HT.out.lo; omega
    have F1 := blk_put (cs' := #[.int .i64 2, .int .i64 (row : Int), .int .i64 col]) (blk_put (cs' := #[.int .i64 2, .int .i64 (row : Int), .int .i64 0]) (blk_put (cs' := #[.int .i64 2, .int .i64 0, .int .i64 0]) HT.out.bF 0 (.int .i64 2) rfl) 1 (.int .i64 (row : Int)) rfl) 2 (.int .i64 col) rfl
    have O1 := blk_far (blk_far (blk_far HT.out.bO (p := ⟨w.heap.size + 1, 0, none⟩) ng1 (.int .i64 2)) (p := ⟨w.heap.size + 1, 1, none⟩) ng1 (.int .i64 (row : Int))) (p := ⟨w.heap.size + 1, 2, none⟩) ng1 (.int .i64 col)
    have B1 := blk_far (blk_far (blk_far HT.out.bB (p := ⟨w.heap.size + 1, 0, none⟩) (by simp) (.int .i64 2)) (p := ⟨w.heap.size + 1, 1, none⟩) (by simp) (.int .i64 (row : Int))) (p := ⟨w.heap.size + 1, 2, none⟩) (by simp) (.int .i64 col)
    have R1 := Kd.R_set (Kd.R_set (Kd.R_set HT.out.ro HT.out.bF (by decide) 0 (.int .i64 2)) (blk_set HT.out.bF 0 (.int .i64 2)) (by decide) 1 (.int .i64 (row : Int))) (blk_set (blk_set HT.out.bF 0 (.int .i64 2)) 1 (.int .i64 (row : Int))) (by decide) 2 (.int .i64 col)
    have Z1 := below_set (j := 2) (v := .int .i64 col) (below_set (j := 1) (v := .int .i64 (row : Int)) (below_set (j := 0) (v := .int .i64 2) HT.out.be (g := w.heap.size + 1) (Nat.le_add_right _ 1)) (Nat.le_add_right _ 1)) (Nat.le_add_right _ 1)
    clear s10 f10 s11 f11 s12 f12 HT hHeld
    generalize (((wy.setCell ⟨w.heap.size + 1, 0, none⟩ (.int .i64 2)).setCell ⟨w.heap.size + 1, 1, none⟩ (.int .i64 (row : Int))).setCell ⟨w.heap.size + 1, 2, none⟩ (.int .i64 col)) = wk at F1 O1 B1 R1 Z1 hK ⊢
    refine hK.out _ _ ⟨(blk_cell O1 0).trans rfl, (blk_cell O1 1).trans rfl, (blk_cell O1 2).trans rfl⟩ (fun hHeld => ?_)
    clear hK K
    have s10 := (blk_cell B1 0).trans rfl
    have s11 := (blk_cell B1 1).trans rfl
    have s12 := (blk_cell B1 2).trans rfl
    have f10 := blk_frozen B1 0
    have f11 := blk_frozen B1 1
    have f12 := blk_frozen B1 2
    refine last_ (i := 6) (N := none) #[true,true,true,true,true,true,true,false] rfl rfl (by kernel_rfl) (by decide) (fun K hK => ?_)
    refine skip_ (w1 := (((wk.setCell ⟨w.heap.size + 2, 0, none⟩ (.int .i64 (R : Int))).setCell ⟨w.heap.size + 2, 1, none⟩ (.int .i64 (cn : Int))).setCell ⟨w.heap.size + 2, 2, none⟩ (.slice (some ⟨g, 0, none⟩) l0.length cap))) (by rfl) rfl ?_ ?_
    ·first | (go_simp; done) | (go_simp; rfl)
    refine hK.out _ _ ?_
    clear hK K
    refine Own.pu_ (i := 7) (N := some 8) #[true,true,true,true,true,true,true,true] ?_
    refine done_ (by kernel_rfl) ?_
    have B2 := blk_put (cs' := #[.int .i64 (R : Int), .int .i64 (cn : Int), .slice (some ⟨g, 0, none⟩) l0.length cap]) (blk_put (cs' := #[.int .i64 (R : Int), .int .i64 (cn : Int), .slice none 0 0]) (blk_put (cs' := #[.int .i64 (R : Int), .int .i64 0, .slice none 0 0]) B1 0 (.int .i64 (R : Int)) rfl) 1 (.int .i64 (cn : Int)) rfl) 2 (.slice (some ⟨g, 0, none⟩) l0.length cap) rfl
    have F2 := blk_far (blk_far (blk_far F1 (p := ⟨w.heap.size + 2, 0, none⟩) (by simp) (.int .i64 (R : Int))) (p := ⟨w.heap.size + 2, 1, none⟩) (by simp) (.int .i64 (cn : Int))) (p := ⟨w.heap.size + 2, 2, none⟩) (by simp) (.slice (some ⟨g, 0, none⟩) l0.length cap)
    have R2 := Kd.R_set (Kd.R_set (Kd.R_set R1 B1 (by decide) 0 (.int .i64 (R : Int))) (blk_set B1 0 (.int .i64 (R : Int))) (by decide) 1 (.int .i64 (cn : Int))) (blk_set (blk_set B1 0 (.int .i64 (R : Int))) 1 (.int .i64 (cn : Int))) (by decide) 2 (.slice (some ⟨g, 0, none⟩) l0.length cap)
    have Z2 := below_set (j := 2) (v := .slice (some ⟨g, 0, none⟩) l0.length cap) (below_set (j := 1) (v := .int .i64 (cn : Int)) (below_set (j := 0) (v := .int .i64 (R : Int)) Z1 (g := w.heap.size + 2) (Nat.le_add_right _ 2)) (Nat.le_add_right _ 2)) (Nat.le_add_right _ 2)
    clear s10 f10 s11 f11 s12 f12 hHeld F1 O1 B1 R1 Z1
    generalize (((wk.setCell ⟨w.heap.size + 2, 0, none⟩ (.int .i64 (R : Int))).setCell ⟨w.heap.size + 2, 1, none⟩ (.int .i64 (cn : Int))).setCell ⟨w.heap.size + 2, 2, none⟩ (.slice (some ⟨g, 0, none⟩) l0.length cap)) = wq at B2 F2 R2 Z2 ⊢
    have e0 := (blk_cell F2 0).trans rfl
    have e1 := (blk_cell F2 1).trans rfl
    have e2 := (blk_cell F2 2).trans rfl
    have e3 := (blk_cell B2 0).trans rfl
    have e4 := (blk_cell B2 1).trans rfl
    have e5 := (blk_cell B2 2).trans rfl
    (try go_wp2)
    exact bodyPost_ret (v := .tuple #[.agg #[.int .i64 2, .int .i64 (row : Int), .int .i64 col], .agg #[.int .i64 (R : Int), .int .i64 (cn : Int), .slice (some ⟨g, 0, none⟩) l0.length cap], _]) (by simp [results, Try.results92, go_sem, e0, e1, e2, e3, e4, e5]; rfl) rfl ⟨_, _, rfl, Kd.R_mono R2 (fun _ _ => trivial), Z2⟩
   have b5 : (kx == 5) = false := beq_false_of_ne h5
   rw [if_neg h5] at hq
   obtain ⟨KP, hKP⟩ := paGoes ⟨kx, sx⟩ side HOK.out hsd h5
   have HPG : Aside0 (spec_paGoes.f KP kx sx side = some gx) := ⟨by rw [HGX.out]; exact hKP KP (Nat.le_refl _)⟩
   clear hKP
   have HBP : Aside0 (BoOk (R : Int) (cn : Int) (passC gs cs i)) := ⟨passC_bo HBO.out⟩
   by_cases hin : 0 ≤ col + gx ∧ col + gx ≤ (cn : Int) - 1
   ·rw [if_pos hin] at hq
    rw [decide_eq_true hin] at HL1
    have HQ2 := Aside0.mk hq
    rw [HD.out] at HQ2
    clear hq
    go_wp2_with (first
     | ((with_reducible refine gate_dst (N := 26) rfl ?_); refine Kd.R_lit (Kd.int .i64) (w0 := w) w.heap.size 3 ?hg (N := 26) ?hd (xs := ([(row : Int), col] : List Int)) (inner := [.int .i64 (row : Int), .int .i64 col]) (ok := fun k_ => True) (okp := fun _ => False) ?hr ?hp (fun _ hk => hk.elim) trivial HS.out.be HS.out.be.size (by simp) ?_; (case hd => rfl); (case hg => rfl); (case hr => first | (go_simp; done) | (go_simp; rfl)); (case hp => exact (Reps.one (show Kd.M (Kd.int .i64) _ _ _ (row : Int) [.int .i64 (row : Int)] from rfl) (Reps.one (show Kd.M (Kd.int .i64) _ _ _ col [.int .i64 col] from rfl) (Reps.none _ _)))); intro vi w6 hR hb hg_ hnew; obtain ⟨Ai, ci, ei⟩ := Kd.R_slice hR; replace ei : vi = .slice Ai 2 ci := ei; subst ei; have NI : Aside0 (∀ k_, (Value.slice Ai 2 ci).ownBlock = some k_ → wr.heap.size ≤ k_) := ⟨fun k_ hk => by obtain ⟨b_, hb_, hle⟩ := hnew; rw [hb_] at hk; injection hk with hk; omega⟩; have LGW : Aside0 (g < wr.heap.size) := ⟨Kd.R_lt HS.out.ro g rfl⟩; have WY6 := Aside0.mk (Kd.S_elder' HS.out.wy NI.out (below_of_grown hg_)); have WL : Aside0 (∀ k_, (Value.slice Aw ws.length cw).ownBlock = some k_ → k_ < wr.heap.size) := ⟨Kd.S_lt HS.out.wy⟩; have HI := Aside0.mk (Kd.R_tight rfl hR); have HS6 := Aside0.mk (HS.out.below (below_of_grown hg_)); clear hR hb hg_ hnew HS p0 p1 o0 o1 o2)
     | ((with_reducible refine gate_builtin (b := .append) (xs := #[.tmp 23, .tmp 27]) rfl ?_); at_builtin; refine Kd.S_append (Kd.slice 3 (Kd.int .i64)) (w0 := w) w.heap.size rfl (.tmp 23) (.tmp 27) 101 39 (.slice none 0 0) 24 rfl Try.underlying101 info39 rfl (by decide) (by omega) (.slice Aw ws.length cw) ws [(row : Int), col] [.slice Ai 2 ci] (fun k_ => k_ ≠ g) (fun k_ => some k_ = (Value.slice Ai 2 ci).ownBlock) rfl rfl ?aP ?aK ?aF ?aO ?aB ?aS ?aL ?_; (case aP => exact ⟨_, rfl, HI.out⟩); (case aK => exact (fun k_ hk => ⟨fun e_ => by have h1_ := NI.out k_ hk.symm; have h2_ := LGW.out; omega, fun e_ => by have h1_ := NI.out k_ hk.symm; have h2_ := WL.out k_ e_.symm; omega⟩)); (case aF => exact (fun k_ hk e_ => by have h1_ := Kd.R_lt HS6.out.ro g rfl; omega)); (case aO => exact WY6.out); (case aB => exact HS6.out.be); (case aS => exact HS6.out.be.size); (case aL => omega); intro v9 w9 hS hb hg_ hat; have HS9 := Aside0.mk (HS6.out.app hS hb hg_); obtain ⟨Aw9, cw9, ew9⟩ := Kd.S_slice HS9.out.wy; rw [List.length_append, List.length_singleton] at ew9; subst ew9; have o0 := (blk_cell HS9.out.bO 0).trans rfl; have o1 := (blk_cell HS9.out.bO 1).trans rfl; have o2 := (blk_cell HS9.out.bO 2).trans rfl; clear hS hb hg_ hat HS6 WY6 NI LGW WL HI)
     | (go_at_call 101; (with_reducible refine (BATC.out _ (Kd.R_reads' HS9.out.ro).2.2).mono ?_); rintro e w10 ⟨rfl, hb⟩; have HS10 := Aside0.mk (HS9.out.below hb); clear hb HS9 o0 o1 o2)
     | (go_at_call 102; (with_reducible refine (spec_paGoes.calls KP _ _ _ gx _ HPG.out).mono ?_); rintro e w12 ⟨rfl, hb⟩; have HS12 := Aside0.mk ((HS10.out.below (below_alloc (Below.refl _ _) (.cells #[.int .i64 kx, .int .i64 sx] 71))).below hb); have o0 := (blk_cell HS12.out.bO 0).trans rfl; have o1 := (blk_cell HS12.out.bO 1).trans rfl; have o2 := (blk_cell HS12.out.bO 2).trans rfl; have p1 : w12.cell? ⟨w.heap.size, 1, none⟩ = some (.int .i64 (cn : Int)) := (blk_cell HS12.out.bA 1).trans rfl; clear hb HS10)
     | (go_at_call 103; (with_reducible refine (spec_flPass.calls 0 _ _ (fun k_ => k_ = g) _ cs _ _ gs (wrap64 (wrap64 ((row : Int) * (cn : Int)) + col)) (passC gs cs i) w _ HS12.out.be HS12.out.ro (Kd.C_kept_came (Kd.heap_int .i64) HG.out HS12.out.be (fun k_ hk_ => by rw [hk_]; exact Kd.R_base HS12.out.ro g rfl)) HGC.out HPA.out).mono ?_); rintro e w13 ⟨rfl, hR, hb, hk⟩; have HS13 := Aside0.mk (HS12.out.pass hR hb hk); have p1 : w13.cell? ⟨w.heap.size, 1, none⟩ = some (.int .i64 (cn : Int)) := (blk_cell HS13.out.bA 1).trans rfl; clear hR hb hk HS12 o0 o1 o2)
     | (go_at_call 63; (with_reducible refine (spec_l1In.calls _ _ _ true _ HL1.out).mono ?_); rintro e w14 ⟨rfl, ⟨nd, rfl⟩⟩; have HS14 := Aside0.mk (HS13.out.below (pw_below_drewN (Below.refl _ _) nd)); clear HS13; generalize w13.drewN nd = w14 at HS14 ⊢)
     | fail)
    go_roundw
    case rel => first | exact ⟨row + 1, col + gx, -gx, _, _, by go_num, by go_num, by go_num, by omega, ⟨hin.1, by omega⟩, ⟨by omega, by omega⟩, by rw [List.length_append, List.length_singleton]; omega, HQ2, HBP, HS14⟩ | ((repeat apply Exists.intro); exact ⟨⟨row + 1, col + gx, -gx, _, _, by go_num, by go_num, by go_num, by omega, ⟨hin.1, by omega⟩, ⟨by omega, by omega⟩, by rw [List.length_append, List.length_singleton]; omega, HQ2, HBP, HS14⟩, rfl⟩)
    case measure => simp [intOf]; omega
   ·rw [if_neg hin] at hq
    rw [decide_eq_false hin] at HL1
    subst hq
    go_wp2_with (first
     | ((with_reducible refine gate_dst (N := 26) rfl ?_); refine Kd.R_lit (Kd.int .i64) (w0 := w) w.heap.size 3 ?hg (N := 26) ?hd (xs := ([(row : Int), col] : List Int)) (inner := [.int .i64 (row : Int), .int .i64 col]) (ok := fun k_ => True) (okp := fun _ => False) ?hr ?hp (fun _ hk => hk.elim) trivial HS.out.be HS.out.be.size (by simp) ?_; (case hd => rfl); (case hg => rfl); (case hr => first | (go_simp; done) | (go_simp; rfl)); (case hp => exact (Reps.one (show Kd.M (Kd.int .i64) _ _ _ (row : Int) [.int .i64 (row : Int)] from rfl) (Reps.one (show Kd.M (Kd.int .i64) _ _ _ col [.int .i64 col] from rfl) (Reps.none _ _)))); intro vi w6 hR hb hg_ hnew; obtain ⟨Ai, ci, ei⟩ := Kd.R_slice hR; replace ei : vi = .slice Ai 2 ci := ei; subst ei; have NI : Aside0 (∀ k_, (Value.slice Ai 2 ci).ownBlock = some k_ → wr.heap.size ≤ k_) := ⟨fun k_ hk => by obtain ⟨b_, hb_, hle⟩ := hnew; rw [hb_] at hk; injection hk with hk; omega⟩; have LGW : Aside0 (g < wr.heap.size) := ⟨Kd.R_lt HS.out.ro g rfl⟩; have WY6 := Aside0.mk (Kd.S_elder' HS.out.wy NI.out (below_of_grown hg_)); have WL : Aside0 (∀ k_, (Value.slice Aw ws.length cw).ownBlock = some k_ → k_ < wr.heap.size) := ⟨Kd.S_lt HS.out.wy⟩; have HI := Aside0.mk (Kd.R_tight rfl hR); have HS6 := Aside0.mk (HS.out.below (below_of_grown hg_)); clear hR hb hg_ hnew HS p0 p1 o0 o1 o2)
     | ((with_reducible refine gate_builtin (b := .append) (xs := #[.tmp 23, .tmp 27]) rfl ?_); at_builtin; refine Kd.S_append (Kd.slice 3 (Kd.int .i64)) (w0 := w) w.heap.size rfl (.tmp 23) (.tmp 27) 101 39 (.slice none 0 0) 24 rfl Try.underlying101 info39 rfl (by decide) (by omega) (.slice Aw ws.length cw) ws [(row : Int), col] [.slice Ai 2 ci] (fun k_ => k_ ≠ g) (fun k_ => some k_ = (Value.slice Ai 2 ci).ownBlock) rfl rfl ?aP ?aK ?aF ?aO ?aB ?aS ?aL ?_; (case aP => exact ⟨_, rfl, HI.out⟩); (case aK => exact (fun k_ hk => ⟨fun e_ => by have h1_ := NI.out k_ hk.symm; have h2_ := LGW.out; omega, fun e_ => by have h1_ := NI.out k_ hk.symm; have h2_ := WL.out k_ e_.symm; omega⟩)); (case aF => exact (fun k_ hk e_ => by have h1_ := Kd.R_lt HS6.out.ro g rfl; omega)); (case aO => exact WY6.out); (case aB => exact HS6.out.be); (case aS => exact HS6.out.be.size); (case aL => omega); intro v9 w9 hS hb hg_ hat; have HS9 := Aside0.mk (HS6.out.app hS hb hg_); obtain ⟨Aw9, cw9, ew9⟩ := Kd.S_slice HS9.out.wy; rw [List.length_append, List.length_singleton] at ew9; subst ew9; have o0 := (blk_cell HS9.out.bO 0).trans rfl; have o1 := (blk_cell HS9.out.bO 1).trans rfl; have o2 := (blk_cell HS9.out.bO 2).trans rfl; clear hS hb hg_ hat HS6 WY6 NI LGW WL HI)
     | (go_at_call 101; (with_reducible refine (BATC.out _ (Kd.R_reads' HS9.out.ro).2.2).mono ?_); rintro e w10 ⟨rfl, hb⟩; have HS10 := Aside0.mk (HS9.out.below hb); clear hb HS9 o0 o1 o2)
     | (go_at_call 102; (with_reducible refine (spec_paGoes.calls KP _ _ _ gx _ HPG.out).mono ?_); rintro e w12 ⟨rfl, hb⟩; have HS12 := Aside0.mk ((HS10.out.below (below_alloc (Below.refl _ _) (.cells #[.int .i64 kx, .int .i64 sx] 71))).below hb); have o0 := (blk_cell HS12.out.bO 0).trans rfl; have o1 := (blk_cell HS12.out.bO 1).trans rfl; have o2 := (blk_cell HS12.out.bO 2).trans rfl; have p1 : w12.cell? ⟨w.heap.size, 1, none⟩ = some (.int .i64 (cn : Int)) := (blk_cell HS12.out.bA 1).trans rfl; clear hb HS10)
     | (go_at_call 103; (with_reducible refine (spec_flPass.calls 0 _ _ (fun k_ => k_ = g) _ cs _ _ gs (wrap64 (wrap64 ((row : Int) * (cn : Int)) + col)) (passC gs cs i) w _ HS12.out.be HS12.out.ro (Kd.C_kept_came (Kd.heap_int .i64) HG.out HS12.out.be (fun k_ hk_ => by rw [hk_]; exact Kd.R_base HS12.out.ro g rfl)) HGC.out HPA.out).mono ?_); rintro e w13 ⟨rfl, hR, hb, hk⟩; have HS13 := Aside0.mk (HS12.out.pass hR hb hk); have p1 : w13.cell? ⟨w.heap.size, 1, none⟩ = some (.int .i64 (cn : Int)) := (blk_cell HS13.out.bA 1).trans rfl; clear hR hb hk HS12 o0 o1 o2)
     | (go_at_call 63; (with_reducible refine (spec_l1In.calls _ _ _ false _ HL1.out).mono ?_); rintro e w14 ⟨rfl, ⟨nd, rfl⟩⟩; have HS14 := Aside0.mk (HS13.out.below (pw_below_drewN (Below.refl _ _) nd)); clear HS13; generalize w13.drewN nd = w14 at HS14 ⊢)
     | fail)
    refine start_ (n := 8) (S := fun w' => w'.cell? ⟨go, 0, none⟩ = some (.int .i64 (R : Int)) ∧ w'.cell? ⟨go, 1, none⟩ = some (.int .i64 (cn : Int)) ∧ w'.cell? ⟨go, 2, none⟩ = some (.slice (some ⟨g, 0, none⟩) l0.length cap)) (ds := [6]) #[false,false,false,false,false,false,false,false] (by kernel_rfl) rfl rfl ⟨(blk_cell HS14.out.bO 0).trans rfl, (blk_cell HS14.out.bO 1).trans rfl, (blk_cell HS14.out.bO 2).trans rfl⟩ (fun hHeld => ?_)
    refine Own.anew_ (wN := w14) Own.bel hHeld (fun wy hzb hHeld => ?_)
    have HT := Aside0.mk (HS14.out.below hzb)
    clear hzb HS14
    refine Own.pu_ (i := 0) (N := some 64) #[true,false,false,false,false,false,false,false] ?_
    refine Own.pu_ (i := 1) (N := some 65) #[true,true,false,false,false,false,false,false] ?_
    refine Own.pu_ (i := 2) (N := some 66) #[true,true,true,false,false,false,false,false] ?_
    refine Own.tk_ (i := 3) (N := some 67) #[true,true,true,true,false,false,false,false] hHeld ?_
    refine Own.pu_ (i := 4) (N := some 68) #[true,true,true,true,true,false,false,false] ?_
    have s10 := (blk_cell HT.out.bF 0).trans rfl
    have s11 := (blk_cell HT.out.bF 1).trans rfl
    have s12 := (blk_cell HT.out.bF 2).trans rfl
    have f10 := blk_frozen HT.out.bF 0
    have f11 := blk_frozen HT.out.bF 1
    have f12 := blk_frozen HT.out.bF 2
    refine one_ (i := 5) (N := none) #[true,true,true,true,true,true,false,false] rfl rfl (by kernel_rfl) (by decide) (fun K hK => ?_)
    refine skip_ (w1 := (((wy.setCell ⟨w.heap.size + 1, 0, none⟩ (.int .i64 3)).setCell ⟨w.heap.size + 1, 1, none⟩ (.int .i64 (row : Int))).setCell ⟨w.heap.size + 1, 2, none⟩ (.int .i64 (col + gx)))) (by rfl) rfl ?_ ?_
    ·first | (go_simp; done) | (go_simp; rfl)
    have ng1 : go ≠ w.heap.size + 1 := by have := HT.out.lo; omega
    have ng2 : go ≠ w.heap.size + 2 := by have := HT.out.lo; omega
    have F1 := blk_put (cs' := #[.int .i64 3, .int .i64 (row : Int), .int .i64 (col + gx)]) (blk_put (cs' := #[.int .i64 3, .int .i64 (row : Int), .int .i64 0]) (blk_put (cs' := #[.int .i64 3, .int .i64 0, .int .i64 0]) HT.out.bF 0 (.int .i64 3) rfl) 1 (.int .i64 (row : Int)) rfl) 2 (.int .i64 (col + gx)) rfl
    have O1 := blk_far (blk_far (blk_far HT.out.bO (p := ⟨w.heap.size + 1, 0, none⟩) ng1 (.int .i64 3)) (p := ⟨w.heap.size + 1, 1, none⟩) ng1 (.int .i64 (row : Int))) (p := ⟨w.heap.size + 1, 2, none⟩) ng1 (.int .i64 (col + gx))
    have B1 := blk_far (blk_far (blk_far HT.out.bB (p := ⟨w.heap.size + 1, 0, none⟩) (by simp) (.int .i64 3)) (p := ⟨w.heap.size + 1, 1, none⟩) (by simp) (.int .i64 (row : Int))) (p := ⟨w.heap.size + 1, 2, none⟩) (by simp) (.int .i64 (col + gx))
    have R1 := Kd.R_set (Kd.R_set (Kd.R_set HT.out.ro HT.out.bF (by decide) 0 (.int .i64 3)) (blk_set HT.out.bF 0 (.int .i64 3)) (by decide) 1 (.int .i64 (row : Int))) (blk_set (blk_set HT.out.bF 0 (.int .i64 3)) 1 (.int .i64 (row : Int))) (by decide) 2 (.int .i64 (col + gx))
    have Z1 := below_set (j := 2) (v := .int .i64 (col + gx)) (below_set (j := 1) (v := .int .i64 (row : Int)) (below_set (j := 0) (v := .int .i64 3) HT.out.be (g := w.heap.size + 1) (Nat.le_add_right _ 1)) (Nat.le_add_right _ 1)) (Nat.le_add_right _ 1)
    clear s10 f10 s11 f11 s12 f12 HT hHeld
    generalize (((wy.setCell ⟨w.heap.size + 1, 0, none⟩ (.int .i64 3)).setCell ⟨w.heap.size + 1, 1, none⟩ (.int .i64 (row : Int))).setCell ⟨w.heap.size + 1, 2, none⟩ (.int .i64 (col + gx))) = wk at F1 O1 B1 R1 Z1 hK ⊢
    refine hK.out _ _ ⟨(blk_cell O1 0).trans rfl, (blk_cell O1 1).trans rfl, (blk_cell O1 2).trans rfl⟩ (fun hHeld => ?_)
    clear hK K
    have s10 := (blk_cell B1 0).trans rfl
    have s11 := (blk_cell B1 1).trans rfl
    have s12 := (blk_cell B1 2).trans rfl
    have f10 := blk_frozen B1 0
    have f11 := blk_frozen B1 1
    have f12 := blk_frozen B1 2
    refine last_ (i := 6) (N := none) #[true,true,true,true,true,true,true,false] rfl rfl (by kernel_rfl) (by decide) (fun K hK => ?_)
    refine skip_ (w1 := (((wk.setCell ⟨w.heap.size + 2, 0, none⟩ (.int .i64 (R : Int))).setCell ⟨w.heap.size + 2, 1, none⟩ (.int .i64 (cn : Int))).setCell ⟨w.heap.size + 2, 2, none⟩ (.slice (some ⟨g, 0, none⟩) l0.length cap))) (by rfl) rfl ?_ ?_
    ·first | (go_simp; done) | (go_simp; rfl)
    refine hK.out _ _ ?_
    clear hK K
    refine Own.pu_ (i := 7) (N := some 8) #[true,true,true,true,true,true,true,true] ?_
    refine done_ (by kernel_rfl) ?_
    have B2 := blk_put (cs' := #[.int .i64 (R : Int), .int .i64 (cn : Int), .slice (some ⟨g, 0, none⟩) l0.length cap]) (blk_put (cs' := #[.int .i64 (R : Int), .int .i64 (cn : Int), .slice none 0 0]) (blk_put (cs' := #[.int .i64 (R : Int), .int .i64 0, .slice none 0 0]) B1 0 (.int .i64 (R : Int)) rfl) 1 (.int .i64 (cn : Int)) rfl) 2 (.slice (some ⟨g, 0, none⟩) l0.length cap) rfl
    have F2 := blk_far (blk_far (blk_far F1 (p := ⟨w.heap.size + 2, 0, none⟩) (by simp) (.int .i64 (R : Int))) (p := ⟨w.heap.size + 2, 1, none⟩) (by simp) (.int .i64 (cn : Int))) (p := ⟨w.heap.size + 2, 2, none⟩) (by simp) (.slice (some ⟨g, 0, none⟩) l0.length cap)
    have R2 := Kd.R_set (Kd.R_set (Kd.R_set R1 B1 (by decide) 0 (.int .i64 (R : Int))) (blk_set B1 0 (.int .i64 (R : Int))) (by decide) 1 (.int .i64 (cn : Int))) (blk_set (blk_set B1 0 (.int .i64 (R : Int))) 1 (.int .i64 (cn : Int))) (by decide) 2 (.slice (some ⟨g, 0, none⟩) l0.length cap)
    have Z2 := below_set (j := 2) (v := .slice (some ⟨g, 0, none⟩) l0.length cap) (below_set (j := 1) (v := .int .i64 (cn : Int)) (below_set (j := 0) (v := .int .i64 (R : Int)) Z1 (g := w.heap.size + 2) (Nat.le_add_right _ 2)) (Nat.le_add_right _ 2)) (Nat.le_add_right _ 2)
    clear s10 f10 s11 f11 s12 f12 hHeld F1 O1 B1 R1 Z1
    generalize (((wk.setCell ⟨w.heap.size + 2, 0, none⟩ (.int .i64 (R : Int))).setCell ⟨w.heap.size + 2, 1, none⟩ (.int .i64 (cn : Int))).setCell ⟨w.heap.size + 2, 2, none⟩ (.slice (some ⟨g, 0, none⟩) l0.length cap)) = wq at B2 F2 R2 Z2 ⊢
    have e0 := (blk_cell F2 0).trans rfl
    have e1 := (blk_cell F2 1).trans rfl
    have e2 := (blk_cell F2 2).trans rfl
    have e3 := (blk_cell B2 0).trans rfl
    have e4 := (blk_cell B2 1).trans rfl
    have e5 := (blk_cell B2 2).trans rfl
    (try go_wp2)
    exact bodyPost_ret (v := .tuple #[.agg #[.int .i64 3, .int .i64 (row : Int), .int .i64 (col + gx)], .agg #[.int .i64 (R : Int), .int .i64 (cn : Int), .slice (some ⟨g, 0, none⟩) l0.length cap], _]) (by simp [results, Try.results92, go_sem, e0, e1, e2, e3, e4, e5]; rfl) rfl ⟨_, _, rfl, Kd.R_mono R2 (fun _ _ => trivial), Z2⟩
  ·obtain rfl : R = row := by omega
   have hq := HQ.out
   rw [Nat.sub_self, goC] at hq
   subst hq
   go_wp2
   refine start_ (n := 9) (S := fun w' => w'.cell? ⟨go, 0, none⟩ = some (.int .i64 (R : Int)) ∧ w'.cell? ⟨go, 1, none⟩ = some (.int .i64 (cn : Int)) ∧ w'.cell? ⟨go, 2, none⟩ = some (.slice (some ⟨g, 0, none⟩) l0.length cap) ∧ w'.cell? ⟨w.heap.size, 0, none⟩ = some (.int .i64 (R : Int))) (ds := [7]) #[false,false,false,false,false,false,false,false,false] (by kernel_rfl) rfl rfl ⟨(blk_cell HS.out.bO 0).trans rfl, (blk_cell HS.out.bO 1).trans rfl, (blk_cell HS.out.bO 2).trans rfl, (blk_cell HS.out.bA 0).trans rfl⟩ (fun hHeld => ?_)
   refine Own.anew_ (wN := wr) Own.bel hHeld (fun wy hzb hHeld => ?_)
   have HT := Aside0.mk (HS.out.below hzb)
   clear hzb HS
   refine Own.pu_ (i := 0) (N := some 69) #[true,false,false,false,false,false,false,false,false] ?_
   refine Own.tk_ (i := 1) (N := some 70) #[true,true,false,false,false,false,false,false,false] hHeld ?_
   refine Own.pu_ (i := 2) (N := some 71) #[true,true,true,false,false,false,false,false,false] ?_
   refine Own.pu_ (i := 3) (N := some 72) #[true,true,true,true,false,false,false,false,false] ?_
   refine Own.tk_ (i := 4) (N := some 73) #[true,true,true,true,true,false,false,false,false] hHeld ?_
   refine Own.pu_ (i := 5) (N := some 74) #[true,true,true,true,true,true,false,false,false] ?_
   have s10 := (blk_cell HT.out.bF 0).trans rfl
   have s11 := (blk_cell HT.out.bF 1).trans rfl
   have s12 := (blk_cell HT.out.bF 2).trans rfl
   have f10 := blk_frozen HT.out.bF 0
   have f11 := blk_frozen HT.out.bF 1
   have f12 := blk_frozen HT.out.bF 2
   refine one_ (i := 6) (N := none) #[true,true,true,true,true,true,true,false,false] rfl rfl (by kernel_rfl) (by decide) (fun K hK => ?_)
   refine skip_ (w1 := (((wy.setCell ⟨w.heap.size + 1, 0, none⟩ (.int .i64 1)).setCell ⟨w.heap.size + 1, 1, none⟩ (.int .i64 (R : Int))).setCell ⟨w.heap.size + 1, 2, none⟩ (.int .i64 col))) (by rfl) rfl ?_ ?_
   ·first | (go_simp; done) | (go_simp; rfl)
   have ng1 : go ≠ w.heap.size + 1 := by have := HT.out.lo; omega
   have ng2 : go ≠ w.heap.size + 2 := by have := HT.out.lo; omega
   have F1 := blk_put (cs' := #[.int .i64 1, .int .i64 (R : Int), .int .i64 col]) (blk_put (cs' := #[.int .i64 1, .int .i64 (R : Int), .int .i64 0]) (blk_put (cs' := #[.int .i64 1, .int .i64 0, .int .i64 0]) HT.out.bF 0 (.int .i64 1) rfl) 1 (.int .i64 (R : Int)) rfl) 2 (.int .i64 col) rfl
   have O1 := blk_far (blk_far (blk_far HT.out.bO (p := ⟨w.heap.size + 1, 0, none⟩) ng1 (.int .i64 1)) (p := ⟨w.heap.size + 1, 1, none⟩) ng1 (.int .i64 (R : Int))) (p := ⟨w.heap.size + 1, 2, none⟩) ng1 (.int .i64 col)
   have B1 := blk_far (blk_far (blk_far HT.out.bB (p := ⟨w.heap.size + 1, 0, none⟩) (by simp) (.int .i64 1)) (p := ⟨w.heap.size + 1, 1, none⟩) (by simp) (.int .i64 (R : Int))) (p := ⟨w.heap.size + 1, 2, none⟩) (by simp) (.int .i64 col)
   have A1_ := blk_far (blk_far (blk_far HT.out.bA (p := ⟨w.heap.size + 1, 0, none⟩) (by simp) (.int .i64 1)) (p := ⟨w.heap.size + 1, 1, none⟩) (by simp) (.int .i64 (R : Int))) (p := ⟨w.heap.size + 1, 2, none⟩) (by simp) (.int .i64 col)
   have R1 := Kd.R_set (Kd.R_set (Kd.R_set HT.out.ro HT.out.bF (by decide) 0 (.int .i64 1)) (blk_set HT.out.bF 0 (.int .i64 1)) (by decide) 1 (.int .i64 (R : Int))) (blk_set (blk_set HT.out.bF 0 (.int .i64 1)) 1 (.int .i64 (R : Int))) (by decide) 2 (.int .i64 col)
   have Z1 := below_set (j := 2) (v := .int .i64 col) (below_set (j := 1) (v := .int .i64 (R : Int)) (below_set (j := 0) (v := .int .i64 1) HT.out.be (g := w.heap.size + 1) (Nat.le_add_right _ 1)) (Nat.le_add_right _ 1)) (Nat.le_add_right _ 1)
   clear s10 f10 s11 f11 s12 f12 HT hHeld
   generalize (((wy.setCell ⟨w.heap.size + 1, 0, none⟩ (.int .i64 1)).setCell ⟨w.heap.size + 1, 1, none⟩ (.int .i64 (R : Int))).setCell ⟨w.heap.size + 1, 2, none⟩ (.int .i64 col)) = wk at F1 O1 B1 R1 Z1 hK A1_ ⊢
   refine hK.out _ _ ⟨(blk_cell O1 0).trans rfl, (blk_cell O1 1).trans rfl, (blk_cell O1 2).trans rfl, (blk_cell A1_ 0).trans rfl⟩ (fun hHeld => ?_)
   clear hK K A1_
   have s10 := (blk_cell B1 0).trans rfl
   have s11 := (blk_cell B1 1).trans rfl
   have s12 := (blk_cell B1 2).trans rfl
   have f10 := blk_frozen B1 0
   have f11 := blk_frozen B1 1
   have f12 := blk_frozen B1 2
   refine last_ (i := 7) (N := none) #[true,true,true,true,true,true,true,true,false] rfl rfl (by kernel_rfl) (by decide) (fun K hK => ?_)
   refine skip_ (w1 := (((wk.setCell ⟨w.heap.size + 2, 0, none⟩ (.int .i64 (R : Int))).setCell ⟨w.heap.size + 2, 1, none⟩ (.int .i64 (cn : Int))).setCell ⟨w.heap.size + 2, 2, none⟩ (.slice (some ⟨g, 0, none⟩) l0.length cap))) (by rfl) rfl ?_ ?_
   ·first | (go_simp; done) | (go_simp; rfl)
   refine hK.out _ _ ?_
   clear hK K
   refine Own.pu_ (i := 8) (N := some 8) #[true,true,true,true,true,true,true,true,true] ?_
   refine done_ (by kernel_rfl) ?_
   have B2 := blk_put (cs' := #[.int .i64 (R : Int), .int .i64 (cn : Int), .slice (some ⟨g, 0, none⟩) l0.length cap]) (blk_put (cs' := #[.int .i64 (R : Int), .int .i64 (cn : Int), .slice none 0 0]) (blk_put (cs' := #[.int .i64 (R : Int), .int .i64 0, .slice none 0 0]) B1 0 (.int .i64 (R : Int)) rfl) 1 (.int .i64 (cn : Int)) rfl) 2 (.slice (some ⟨g, 0, none⟩) l0.length cap) rfl
   have F2 := blk_far (blk_far (blk_far F1 (p := ⟨w.heap.size + 2, 0, none⟩) (by simp) (.int .i64 (R : Int))) (p := ⟨w.heap.size + 2, 1, none⟩) (by simp) (.int .i64 (cn : Int))) (p := ⟨w.heap.size + 2, 2, none⟩) (by simp) (.slice (some ⟨g, 0, none⟩) l0.length cap)
   have R2 := Kd.R_set (Kd.R_set (Kd.R_set R1 B1 (by decide) 0 (.int .i64 (R : Int))) (blk_set B1 0 (.int .i64 (R : Int))) (by decide) 1 (.int .i64 (cn : Int))) (blk_set (blk_set B1 0 (.int .i64 (R : Int))) 1 (.int .i64 (cn : Int))) (by decide) 2 (.slice (some ⟨g, 0, none⟩) l0.length cap)
   have Z2 := below_set (j := 2) (v := .slice (some ⟨g, 0, none⟩) l0.length cap) (below_set (j := 1) (v := .int .i64 (cn : Int)) (below_set (j := 0) (v := .int .i64 (R : Int)) Z1 (g := w.heap.size + 2) (Nat.le_add_right _ 2)) (Nat.le_add_right _ 2)) (Nat.le_add_right _ 2)
   clear s10 f10 s11 f11 s12 f12 hHeld F1 O1 B1 R1 Z1
   generalize (((wk.setCell ⟨w.heap.size + 2, 0, none⟩ (.int .i64 (R : Int))).setCell ⟨w.heap.size + 2, 1, none⟩ (.int .i64 (cn : Int))).setCell ⟨w.heap.size + 2, 2, none⟩ (.slice (some ⟨g, 0, none⟩) l0.length cap)) = wq at B2 F2 R2 Z2 ⊢
   have e0 := (blk_cell F2 0).trans rfl
   have e1 := (blk_cell F2 1).trans rfl
   have e2 := (blk_cell F2 2).trans rfl
   have e3 := (blk_cell B2 0).trans rfl
   have e4 := (blk_cell B2 1).trans rfl
   have e5 := (blk_cell B2 2).trans rfl
   (try go_wp2)
   exact bodyPost_ret (v := .tuple #[.agg #[.int .i64 1, .int .i64 (R : Int), .int .i64 col], .agg #[.int .i64 (R : Int), .int .i64 (cn : Int), .slice (some ⟨g, 0, none⟩) l0.length cap], _]) (by simp [results, Try.results92, go_sem, e0, e1, e2, e3, e4, e5]; rfl) rfl ⟨_, _, rfl, Kd.R_mono R2 (fun _ _ => trivial), Z2⟩
end Go.Proofs.Ytcilbmbgdcepgaa.P
