/- The walk of impl.FallOf (printed by gen_fallof.py). -/
import Derived.Test.YtcilbmbgdcepgaaYFnExactTableOfBoardAValid
import Derived.Test.YtcilbmbgdcepgaaZFnExactTableOfBoard0
import Derived.Test.YtcilbmbgdcepgaaYFnExactTableOfBoardPx84
import Derived.Test.YtcilbmbgdcepgaaYFnExactTableOfBoardPx58
import Derived.Test.YtcilbmbgdcepgaaYFnExactTableOfBoardPx87
import Derived.Test.YtcilbmbgdcepgaaYFnExactTableOfBoardPx81
namespace Go.Proofs.Ytcilbmbgdcepgaa.P
open Go.RowKit YtcilbmbgdcepgaaW.PrintWords YtcilbmbgdcepgaaW.PrintLast YtcilbmbgdcepgaaW.PrintMore Own A
set_option linter.unusedVariables false
set_option linter.unusedSimpArgs false
/-! ### impl_FallOf: function 94 -/
def FallFitI (R C : Int) (l : List S71) (col : Int) : Prop := BoOk R C l ∧ 0 ≤ col ∧ col < C
instance (R C : Int) (l : List S71) (col : Int) : Decidable (FallFitI R C l col) := by unfold FallFitI; infer_instance
def impl_FallOf.f (k : Nat) (a0_0 : Int) (a0_1 : Int) (l0_2 : List (S71)) (a1 : Int) : Option (Int × Int × Int × Bool) := if FallFitI a0_0 a0_1 l0_2 a1 then some ((fallL a0_0.toNat a0_1.toNat l0_2 a1).1.1, (fallL a0_0.toNat a0_1.toNat l0_2 a1).1.2.1, (fallL a0_0.toNat a0_1.toNat l0_2 a1).1.2.2, true) else none
theorem impl_FallOf.mono : ∀ a0 a1 a2 a3 k, LeO (impl_FallOf.f k a0 a1 a2 a3) (impl_FallOf.f (k + 1) a0 a1 a2 a3) := fun _ _ _ _ _ _ h => h
set_option maxHeartbeats 16000000 in
set_option maxRecDepth 100000 in
theorem impl_FallOf.calls (k : Nat) (a0_0 : Int) (a0_1 : Int) (A0_2 : Option Addr) (c0_2 : Nat) (l0_2 : List (S71)) (a1 : Int) (r1 : Int) (r2 : Int) (r3 : Int) (r4 : Bool) (w : World) (hr0_2 : Kd.C k71 w A0_2 l0_2.length l0_2) (hc0_2 : l0_2.length ≤ c0_2) (h : impl_FallOf.f k a0_0 a0_1 l0_2 a1 = some (r1, r2, r3, r4)) :
  Calls Try.prog 94 #[.agg #[.int .i64 a0_0, .int .i64 a0_1, .slice A0_2 l0_2.length c0_2], .int .i64 a1] w fun e w' => e = .returned (.tuple #[.agg #[.int .i64 r1, .int .i64 r2, .int .i64 r3], .bool r4]) ∧ Below w.heap.size w w' := by
 have hu24 := Try.underlying24
 have hu65 := Try.underlying81
 unfold impl_FallOf.f at h
 by_cases hk : FallFitI a0_0 a0_1 l0_2 a1
 case neg => rw [if_neg hk] at h; simp at h
 rw [if_pos hk] at h
 simp only [Option.some.injEq, Prod.mk.injEq] at h
 obtain ⟨rfl, rfl, rfl, rfl⟩ := h
 obtain ⟨hb, h0, h1⟩ := hk
 obtain ⟨R, rfl⟩ : ∃ m : Nat, a0_0 = (m : Int) := ⟨a0_0.toNat, by have := hb.1.1; omega⟩
 obtain ⟨cn, rfl⟩ : ∃ m : Nat, a0_1 = (m : Int) := ⟨a0_1.toNat, by have := hb.2.1.1; omega⟩
 rw [Int.toNat_natCast, Int.toNat_natCast]
 obtain ⟨gs, hgs⟩ : ∃ gs, gs = grpL R cn l0_2 := ⟨_, rfl⟩
 have hgl : gs.length = R * cn := by rw [hgs]; exact grpL_len R cn l0_2
 have GG : Aside0 (impl_groupNumbers.f 0 (R : Int) (cn : Int) l0_2 = some gs) := ⟨by unfold impl_groupNumbers.f; rw [if_pos hb, Int.toNat_natCast, Int.toNat_natCast, hgs]⟩
 obtain ⟨KV, hKV⟩ := validEntry (R : Int) (cn : Int) l0_2 a1 (by have := hb.len; simp only [maxLen]; omega)
 have HV : Aside0 (impl_validEntry.f KV (R : Int) (cn : Int) l0_2 a1 = some true) := ⟨by have h_ := hKV KV (Nat.le_refl _); rw [decide_eq_true (show BoOk (R : Int) (cn : Int) l0_2 ∧ 0 ≤ a1 ∧ a1 < (cn : Int) from ⟨hb, h0, h1⟩)] at h_; exact h_⟩
 have CB : Aside0 (impl_copyBoard.f (R : Int) (cn : Int) l0_2 = some ((R : Int), (cn : Int), l0_2)) := ⟨by unfold impl_copyBoard.f; rw [Option.bind_some, if_pos (by have := hb.len; simp; omega)]; rfl⟩
 have hl0 : 0 < l0_2.length := by have h_ := bo_nat hb; have h2_ : 1 * 1 ≤ R * cn := Nat.mul_le_mul (by have := hb.1.1; omega) (by have := hb.2.1.1; omega); omega
 obtain ⟨p, hp⟩ : ∃ p, p = fallL R cn l0_2 a1 := ⟨_, rfl⟩
 have hpg : goC cn gs R 0 a1 0 l0_2 = p := by rw [hp, hgs]; rfl
 rw [← hp]
 have DR : Aside0 (∀ (w0 w' : World) (g cap : Nat) (Ag : Option Addr) (cg : Nat), Below w0.heap.size w0 w' → Kd.R k71 71 w' w0.heap.size (fun k => k = g) (.slice (some ⟨g, 0, none⟩) l0_2.length cap) l0_2 → (∀ W_, Kept w' W_ (fun k => k = g) → Kd.C (Kd.int .i64) W_ Ag gs.length gs) → gs.length ≤ cg → Calls Try.prog 76 #[.agg #[.int .i64 (R : Int), .int .i64 (cn : Int), .slice (some ⟨g, 0, none⟩) l0_2.length cap], .slice Ag gs.length cg, .int .i64 a1] w' fun e_ w'' => DropMade w0 w' (fun k => k = g) g l0_2.length cap p e_ w'') := ⟨fun w0 w' g cap Ag cg hB ho hG hgc => by have h_ := drop_own w0 w' (fun k => k = g) g l0_2.length cap R cn l0_2 Ag cg gs a1 hB ho hG hgc hb hgl h0 h1; rw [hpg] at h_; exact h_⟩
 obtain ⟨⟨q1, q2, q3⟩, cs⟩ := p
 simp only
 have HC := Aside0.mk hr0_2
 have HCC := Aside0.mk hc0_2
 have z1 : (w.alloc (.cells #[.int .i64 (R : Int), .int .i64 (cn : Int), .slice A0_2 l0_2.length c0_2] 24)).heap.size = w.heap.size + 1 := Array.size_push _
 have BA := Aside0.mk (blk_alloc (blk_new w (.cells #[.int .i64 (R : Int), .int .i64 (cn : Int), .slice A0_2 l0_2.length c0_2] 24)) (.cells #[.int .i64 0, .int .i64 0, .int .i64 0] 81))
 have BF := Aside0.mk (blk_new (w.alloc (.cells #[.int .i64 (R : Int), .int .i64 (cn : Int), .slice A0_2 l0_2.length c0_2] 24)) (.cells #[.int .i64 0, .int .i64 0, .int .i64 0] 81))
 rw [z1] at BF
 have HB0 := Aside0.mk (below_alloc (below_alloc (Below.refl w.heap.size w) (.cells #[.int .i64 (R : Int), .int .i64 (cn : Int), .slice A0_2 l0_2.length c0_2] 24)) (.cells #[.int .i64 0, .int .i64 0, .int .i64 0] 81))
 clear hr0_2 hc0_2 hb h0 h1 hgs hgl hKV hp hpg z1
 go_enter Try.func94, Try.ntmps94
 go_wp2_with (first
  | (go_at_call 73; (with_reducible refine (impl_validEntry.calls KV _ _ _ _ l0_2 _ true _ (Kd.C_below HC.out HB0.out) HCC.out HV.out).mono ?_); rintro e w3 ⟨rfl, hb⟩; have BA3 := Aside0.mk (blk_below BA.out hb); have BF3 := Aside0.mk (blk_below BF.out hb); have HB3 := Aside0.mk (below_step HB0.out hb); clear hb BA BF HB0)
  | fail)
 skip
 refine start_ (n := 12) (S := fun w' => w'.cell? ⟨w.heap.size, 0, none⟩ = some (.int .i64 (R : Int)) ∧ w'.cell? ⟨w.heap.size, 1, none⟩ = some (.int .i64 (cn : Int)) ∧ w'.cell? ⟨w.heap.size, 2, none⟩ = some (.slice A0_2 l0_2.length c0_2)) (ds := []) #[false,false,false,false,false,false,false,false,false,false,false,false] (by kernel_rfl) rfl rfl ⟨(blk_cell BA3.out 0).trans rfl, (blk_cell BA3.out 1).trans rfl, (blk_cell BA3.out 2).trans rfl⟩ (fun hHeld => ?_)
 refine Own.anew_ (wN := w3) Own.bel hHeld (fun wy hzb hHeld => ?_)
 have BA := Aside0.mk (blk_below BA3.out hzb)
 have BF := Aside0.mk (blk_below BF3.out hzb)
 have HB0 := Aside0.mk (below_step HB3.out hzb)
 have HZ := Aside0.mk (Below.refl wy.heap.size wy)
 clear hzb BA3 BF3 HB3
 refine Own.tk_ (i := 0) (N := some 14) #[true,false,false,false,false,false,false,false,false,false,false,false] hHeld ?_
 refine Own.tk_ (i := 2) (N := some 16) #[true,false,true,false,false,false,false,false,false,false,false,false] hHeld ?_
 refine Own.pu_ (i := 4) (N := some 18) #[true,false,true,false,true,false,false,false,false,false,false,false] ?_
 refine join_ (σ := Nat × Nat × Option Addr × Nat × Value × Nat) 2 #[true,true,true,true,true,true,true,true,true,true,false,false] (fun s_ => [(15, .agg #[.int .i64 (R : Int), .int .i64 (cn : Int), .slice (some ⟨s_.1, 0, none⟩) l0_2.length s_.2.1]), (17, .slice s_.2.2.1 gs.length s_.2.2.2.1), (19, .tuple #[.agg #[.int .i64 q1, .int .i64 q2, .int .i64 q3], s_.2.2.2.2.1]), (13, .tuple #[.agg #[.int .i64 q1, .int .i64 q2, .int .i64 q3], s_.2.2.2.2.1]), (20, .agg #[.int .i64 q1, .int .i64 q2, .int .i64 q3]), (21, s_.2.2.2.2.1), (6, .pointer (some ⟨s_.2.2.2.2.2, 0, none⟩))]) (fun s_ w' => (w'.cell? ⟨w.heap.size, 0, none⟩ = some (.int .i64 (R : Int)) ∧ w'.cell? ⟨w.heap.size, 1, none⟩ = some (.int .i64 (cn : Int)) ∧ w'.cell? ⟨w.heap.size, 2, none⟩ = some (.slice A0_2 l0_2.length c0_2)) ∧ Below wy.heap.size wy w' ∧ w'.heap[s_.2.2.2.2.2]? = some (.cells #[.int .i64 0, .int .i64 0, .int .i64 0] 81 (0, 0)) ∧ wy.heap.size ≤ s_.2.2.2.2.2) ?_ ?_
 rotate_left
 ·intro hJ31
  refine join_ (σ := Nat × Nat × Option Addr × Nat × Value × Nat) 3 #[true,true,true,true,true,true,true,true,true,false,false,false] (fun s_ => [(15, .agg #[.int .i64 (R : Int), .int .i64 (cn : Int), .slice (some ⟨s_.1, 0, none⟩) l0_2.length s_.2.1]), (17, .slice s_.2.2.1 gs.length s_.2.2.2.1), (19, .tuple #[.agg #[.int .i64 q1, .int .i64 q2, .int .i64 q3], s_.2.2.2.2.1]), (13, .tuple #[.agg #[.int .i64 q1, .int .i64 q2, .int .i64 q3], s_.2.2.2.2.1]), (20, .agg #[.int .i64 q1, .int .i64 q2, .int .i64 q3]), (21, s_.2.2.2.2.1)]) (fun s_ w' => (w'.cell? ⟨w.heap.size, 0, none⟩ = some (.int .i64 (R : Int)) ∧ w'.cell? ⟨w.heap.size, 1, none⟩ = some (.int .i64 (cn : Int)) ∧ w'.cell? ⟨w.heap.size, 2, none⟩ = some (.slice A0_2 l0_2.length c0_2)) ∧ Below wy.heap.size wy w') ?_ ?_
  rotate_left
  ·intro hJ30
   refine join_ (σ := Nat × Nat × Option Addr × Nat × Value × Nat) 6 #[true,true,true,true,true,false,false,false,false,true,false,false] (fun s_ => [(15, .agg #[.int .i64 (R : Int), .int .i64 (cn : Int), .slice (some ⟨s_.1, 0, none⟩) l0_2.length s_.2.1]), (17, .slice s_.2.2.1 gs.length s_.2.2.2.1), (6, .pointer (some ⟨s_.2.2.2.2.2, 0, none⟩))]) (fun s_ w' => (w'.cell? ⟨w.heap.size, 0, none⟩ = some (.int .i64 (R : Int)) ∧ w'.cell? ⟨w.heap.size, 1, none⟩ = some (.int .i64 (cn : Int)) ∧ w'.cell? ⟨w.heap.size, 2, none⟩ = some (.slice A0_2 l0_2.length c0_2)) ∧ Below wy.heap.size wy w' ∧ Kd.R k71 71 w' wy.heap.size (fun k => k = s_.1) (.slice (some ⟨s_.1, 0, none⟩) l0_2.length s_.2.1) l0_2 ∧ Kd.R (Kd.int .i64) 3 w' wy.heap.size (fun k => k ≠ s_.1) (.slice s_.2.2.1 gs.length s_.2.2.2.1) gs ∧ w'.heap[s_.2.2.2.2.2]? = some (.cells #[.int .i64 0, .int .i64 0, .int .i64 0] 81 (0, 0)) ∧ wy.heap.size ≤ s_.2.2.2.2.2) ?_ ?_
   rotate_left
   ·intro hJ21
    refine join_ (σ := Nat × Nat × Option Addr × Nat × Value × Nat) 7 #[true,true,true,true,true,false,false,false,false,false,false,false] (fun s_ => [(15, .agg #[.int .i64 (R : Int), .int .i64 (cn : Int), .slice (some ⟨s_.1, 0, none⟩) l0_2.length s_.2.1]), (17, .slice s_.2.2.1 gs.length s_.2.2.2.1)]) (fun s_ w' => (w'.cell? ⟨w.heap.size, 0, none⟩ = some (.int .i64 (R : Int)) ∧ w'.cell? ⟨w.heap.size, 1, none⟩ = some (.int .i64 (cn : Int)) ∧ w'.cell? ⟨w.heap.size, 2, none⟩ = some (.slice A0_2 l0_2.length c0_2)) ∧ Below wy.heap.size wy w' ∧ Kd.R k71 71 w' wy.heap.size (fun k => k = s_.1) (.slice (some ⟨s_.1, 0, none⟩) l0_2.length s_.2.1) l0_2 ∧ Kd.R (Kd.int .i64) 3 w' wy.heap.size (fun k => k ≠ s_.1) (.slice s_.2.2.1 gs.length s_.2.2.2.1) gs) ?_ ?_
    rotate_left
    ·intro hJ20
     refine join_ (σ := Nat × Nat × Option Addr × Nat × Value × Nat) 7 #[true,true,true,false,true,false,false,false,false,true,false,false] (fun s_ => [(15, .agg #[.int .i64 (R : Int), .int .i64 (cn : Int), .slice (some ⟨s_.1, 0, none⟩) l0_2.length s_.2.1]), (6, .pointer (some ⟨s_.2.2.2.2.2, 0, none⟩))]) (fun s_ w' => (w'.cell? ⟨w.heap.size, 0, none⟩ = some (.int .i64 (R : Int)) ∧ w'.cell? ⟨w.heap.size, 1, none⟩ = some (.int .i64 (cn : Int)) ∧ w'.cell? ⟨w.heap.size, 2, none⟩ = some (.slice A0_2 l0_2.length c0_2)) ∧ Below wy.heap.size wy w' ∧ Kd.R k71 71 w' wy.heap.size (fun k => k = s_.1) (.slice (some ⟨s_.1, 0, none⟩) l0_2.length s_.2.1) l0_2 ∧ w'.heap[s_.2.2.2.2.2]? = some (.cells #[.int .i64 0, .int .i64 0, .int .i64 0] 81 (0, 0)) ∧ wy.heap.size ≤ s_.2.2.2.2.2) ?_ ?_
     rotate_left
     ·intro hJ11
      refine join_ (σ := Nat × Nat × Option Addr × Nat × Value × Nat) 8 #[true,true,true,false,true,false,false,false,false,false,false,false] (fun s_ => [(15, .agg #[.int .i64 (R : Int), .int .i64 (cn : Int), .slice (some ⟨s_.1, 0, none⟩) l0_2.length s_.2.1])]) (fun s_ w' => (w'.cell? ⟨w.heap.size, 0, none⟩ = some (.int .i64 (R : Int)) ∧ w'.cell? ⟨w.heap.size, 1, none⟩ = some (.int .i64 (cn : Int)) ∧ w'.cell? ⟨w.heap.size, 2, none⟩ = some (.slice A0_2 l0_2.length c0_2)) ∧ Below wy.heap.size wy w' ∧ Kd.R k71 71 w' wy.heap.size (fun k => k = s_.1) (.slice (some ⟨s_.1, 0, none⟩) l0_2.length s_.2.1) l0_2) ?_ ?_
      rotate_left
      ·intro hJ10
       refine join_ (σ := Nat × Nat × Option Addr × Nat × Value × Nat) 8 #[true,false,true,false,true,false,false,false,false,true,false,false] (fun s_ => [(6, .pointer (some ⟨s_.2.2.2.2.2, 0, none⟩))]) (fun s_ w' => (w'.cell? ⟨w.heap.size, 0, none⟩ = some (.int .i64 (R : Int)) ∧ w'.cell? ⟨w.heap.size, 1, none⟩ = some (.int .i64 (cn : Int)) ∧ w'.cell? ⟨w.heap.size, 2, none⟩ = some (.slice A0_2 l0_2.length c0_2)) ∧ Below wy.heap.size wy w' ∧ w'.heap[s_.2.2.2.2.2]? = some (.cells #[.int .i64 0, .int .i64 0, .int .i64 0] 81 (0, 0)) ∧ wy.heap.size ≤ s_.2.2.2.2.2) ?_ ?_
       rotate_left
       ·intro hJ01
        refine two_ (i := 1) (j := 9) (Ni := some 15) (Nj := some 6) #[true,true,true,false,true,false,false,false,false,false,false,false] #[true,false,true,false,true,false,false,false,false,true,false,false] rfl rfl rfl rfl (by kernel_rfl) (by decide) (by decide) (fun K hK => ?_) (fun K hK => ?_)
        ·skip
         refine goes_ Try.func70 (by kernel_rfl) rfl #[.agg #[.int .i64 (R : Int), .int .i64 (cn : Int), .slice A0_2 l0_2.length c0_2]] (by rfl) rfl rfl Own.mapd ?_
         with_reducible refine (impl_copyBoard.calls _ _ _ _ l0_2 _ _ l0_2 _ (Kd.C_below HC.out (below_step HB0.out HZ.out)) HCC.out CB.out).mono ?_
         rintro e w1 ⟨v, rfl, hR, hb⟩
         refine ⟨_, rfl, ?_⟩
         obtain ⟨g, cap, ev, _, _, _⟩ := Kd.R_form hR hl0
         subst ev
         have HR := Aside0.mk (Kd.R_mono (ok' := fun k => k = g) (Kd.R_tight rfl (Kd.R_lower hR HZ.out.size)) (fun k hk_ => by have h1_ : some k = some g := hk_; injection h1_))
         replace HZ := Aside0.mk (below_step HZ.out hb)
         clear hb hR
         refine hK.out _ _ ⟨(blk_cell (blk_below BA.out HZ.out) 0).trans rfl, (blk_cell (blk_below BA.out HZ.out) 1).trans rfl, (blk_cell (blk_below BA.out HZ.out) 2).trans rfl⟩ (fun hHeld => ?_)
         clear hK K
         refine Own.nm_ (some 15) ?_
         exact norm_ (by simp only [putAll, Own.putL]) (hJ10 (g, cap, none, 0, undef, 0) _ ⟨hHeld, HZ.out, HR.out⟩)
        ·skip
         refine box_step (by rfl) (N := 6) rfl (cs := #[.int .i64 0, .int .i64 0, .int .i64 0]) (t := 81) ?hr ?_
         case hr => first | (go_simp; done) | (go_simp; rfl)
         intro g6 hg w1 hbox hb
         have LX : Aside0 (wy.heap.size ≤ g6) := ⟨by rw [hg]; exact HZ.out.size⟩
         replace HZ := Aside0.mk (below_step HZ.out hb)
         have HX := Aside0.mk hbox
         clear hg hb hbox
         refine hK.out _ _ ⟨(blk_cell (blk_below BA.out HZ.out) 0).trans rfl, (blk_cell (blk_below BA.out HZ.out) 1).trans rfl, (blk_cell (blk_below BA.out HZ.out) 2).trans rfl⟩ (fun hHeld => ?_)
         clear hK K
         refine Own.nm_ (some 6) ?_
         exact norm_ (by simp only [putAll, Own.putL]) (hJ01 (0, 0, none, 0, undef, g6) _ ⟨hHeld, HZ.out, HX.out, LX.out⟩)
       clear HZ hHeld
       rintro ⟨g, cap, Ag, cg, vw, g6⟩ wj ⟨hHeld, hz, hx, lx⟩
       have HZ := Aside0.mk hz
       have HX := Aside0.mk hx
       have LX := Aside0.mk lx
       clear hz hx lx
       refine norm_ (a' := ?_) ?_ ?_
       rotate_left
       ·simp only [putAll, Own.putL]
        rfl
       refine one_ (i := 1) (N := some 15) #[true,true,true,false,true,false,false,false,false,true,false,false] rfl rfl (by kernel_rfl) (by decide) (fun K hK => ?_)
       refine goes_ Try.func70 (by kernel_rfl) rfl #[.agg #[.int .i64 (R : Int), .int .i64 (cn : Int), .slice A0_2 l0_2.length c0_2]] (by rfl) rfl rfl Own.mapd ?_
       with_reducible refine (impl_copyBoard.calls _ _ _ _ l0_2 _ _ l0_2 _ (Kd.C_below HC.out (below_step HB0.out HZ.out)) HCC.out CB.out).mono ?_
       rintro e w1 ⟨v, rfl, hR, hb⟩
       refine ⟨_, rfl, ?_⟩
       obtain ⟨g, cap, ev, _, _, _⟩ := Kd.R_form hR hl0
       subst ev
       have HR := Aside0.mk (Kd.R_mono (ok' := fun k => k = g) (Kd.R_tight rfl (Kd.R_lower hR HZ.out.size)) (fun k hk_ => by have h1_ : some k = some g := hk_; injection h1_))
       replace HX := Aside0.mk (blk_below HX.out hb)
       replace HZ := Aside0.mk (below_step HZ.out hb)
       clear hb hR
       refine hK.out _ _ ⟨(blk_cell (blk_below BA.out HZ.out) 0).trans rfl, (blk_cell (blk_below BA.out HZ.out) 1).trans rfl, (blk_cell (blk_below BA.out HZ.out) 2).trans rfl⟩ (fun hHeld => ?_)
       clear hK K
       refine Own.nm_ (some 15) ?_
       exact norm_ (by simp only [putAll, Own.putL]) (hJ11 (g, cap, none, 0, undef, g6) _ ⟨hHeld, HZ.out, HR.out, HX.out, LX.out⟩)
      clear HZ hHeld
      rintro ⟨g, cap, Ag, cg, vw, g6⟩ wj ⟨hHeld, hz, hr⟩
      have HZ := Aside0.mk hz
      have HR := Aside0.mk hr
      clear hz hr
      refine norm_ (a' := ?_) ?_ ?_
      rotate_left
      ·simp only [putAll, Own.putL]
       rfl
      refine two_ (i := 3) (j := 9) (Ni := some 17) (Nj := some 6) #[true,true,true,true,true,false,false,false,false,false,false,false] #[true,true,true,false,true,false,false,false,false,true,false,false] rfl rfl rfl rfl (by kernel_rfl) (by decide) (by decide) (fun K hK => ?_) (fun K hK => ?_)
      ·skip
       refine goes_ Try.func77 (by kernel_rfl) rfl #[.agg #[.int .i64 (R : Int), .int .i64 (cn : Int), .slice A0_2 l0_2.length c0_2]] (by rfl) rfl rfl Own.mapd ?_
       with_reducible refine (impl_groupNumbers.calls 0 _ _ _ _ l0_2 gs _ (Kd.C_below HC.out (below_step HB0.out HZ.out)) HCC.out GG.out).mono ?_
       rintro e w1 ⟨v, rfl, hR, hb⟩
       refine ⟨_, rfl, ?_⟩
       obtain ⟨Ag, cg, eg⟩ := Kd.R_slice hR
       subst eg
       have HG := Aside0.mk (Kd.R_mono (ok' := fun k => k ≠ g) (Kd.R_lower (Kd.R_new' hR (Kd.R_lt HR.out)) HZ.out.size) (fun k hk_ e_ => hk_.2 (by rw [e_]; rfl)))
       replace HR := Aside0.mk (Kd.R_below HR.out hb)
       replace HZ := Aside0.mk (below_step HZ.out hb)
       clear hb hR
       refine hK.out _ _ ⟨(blk_cell (blk_below BA.out HZ.out) 0).trans rfl, (blk_cell (blk_below BA.out HZ.out) 1).trans rfl, (blk_cell (blk_below BA.out HZ.out) 2).trans rfl⟩ (fun hHeld => ?_)
       clear hK K
       refine Own.nm_ (some 17) ?_
       exact norm_ (by simp only [putAll, Own.putL]) (hJ20 (g, cap, Ag, cg, undef, 0) _ ⟨hHeld, HZ.out, HR.out, HG.out⟩)
      ·skip
       refine box_step (by rfl) (N := 6) rfl (cs := #[.int .i64 0, .int .i64 0, .int .i64 0]) (t := 81) ?hr ?_
       case hr => first | (go_simp; done) | (go_simp; rfl)
       intro g6 hg w1 hbox hb
       have LX : Aside0 (wy.heap.size ≤ g6) := ⟨by rw [hg]; exact HZ.out.size⟩
       replace HR := Aside0.mk (Kd.R_below HR.out hb)
       replace HZ := Aside0.mk (below_step HZ.out hb)
       have HX := Aside0.mk hbox
       clear hg hb hbox
       refine hK.out _ _ ⟨(blk_cell (blk_below BA.out HZ.out) 0).trans rfl, (blk_cell (blk_below BA.out HZ.out) 1).trans rfl, (blk_cell (blk_below BA.out HZ.out) 2).trans rfl⟩ (fun hHeld => ?_)
       clear hK K
       refine Own.nm_ (some 6) ?_
       exact norm_ (by simp only [putAll, Own.putL]) (hJ11 (g, cap, none, 0, undef, g6) _ ⟨hHeld, HZ.out, HR.out, HX.out, LX.out⟩)
     clear HZ hHeld
     rintro ⟨g, cap, Ag, cg, vw, g6⟩ wj ⟨hHeld, hz, hr, hx, lx⟩
     have HZ := Aside0.mk hz
     have HR := Aside0.mk hr
     have HX := Aside0.mk hx
     have LX := Aside0.mk lx
     clear hz hr hx lx
     refine norm_ (a' := ?_) ?_ ?_
     rotate_left
     ·simp only [putAll, Own.putL]
      rfl
     refine one_ (i := 3) (N := some 17) #[true,true,true,true,true,false,false,false,false,true,false,false] rfl rfl (by kernel_rfl) (by decide) (fun K hK => ?_)
     refine goes_ Try.func77 (by kernel_rfl) rfl #[.agg #[.int .i64 (R : Int), .int .i64 (cn : Int), .slice A0_2 l0_2.length c0_2]] (by rfl) rfl rfl Own.mapd ?_
     with_reducible refine (impl_groupNumbers.calls 0 _ _ _ _ l0_2 gs _ (Kd.C_below HC.out (below_step HB0.out HZ.out)) HCC.out GG.out).mono ?_
     rintro e w1 ⟨v, rfl, hR, hb⟩
     refine ⟨_, rfl, ?_⟩
     obtain ⟨Ag, cg, eg⟩ := Kd.R_slice hR
     subst eg
     have HG := Aside0.mk (Kd.R_mono (ok' := fun k => k ≠ g) (Kd.R_lower (Kd.R_new' hR (Kd.R_lt HR.out)) HZ.out.size) (fun k hk_ e_ => hk_.2 (by rw [e_]; rfl)))
     replace HR := Aside0.mk (Kd.R_below HR.out hb)
     replace HX := Aside0.mk (blk_below HX.out hb)
     replace HZ := Aside0.mk (below_step HZ.out hb)
     clear hb hR
     refine hK.out _ _ ⟨(blk_cell (blk_below BA.out HZ.out) 0).trans rfl, (blk_cell (blk_below BA.out HZ.out) 1).trans rfl, (blk_cell (blk_below BA.out HZ.out) 2).trans rfl⟩ (fun hHeld => ?_)
     clear hK K
     refine Own.nm_ (some 17) ?_
     exact norm_ (by simp only [putAll, Own.putL]) (hJ21 (g, cap, Ag, cg, undef, g6) _ ⟨hHeld, HZ.out, HR.out, HG.out, HX.out, LX.out⟩)
    clear HZ hHeld
    rintro ⟨g, cap, Ag, cg, vw, g6⟩ wj ⟨hHeld, hz, hr, hg⟩
    have HZ := Aside0.mk hz
    have HR := Aside0.mk hr
    have HG := Aside0.mk hg
    clear hz hr hg
    refine norm_ (a' := ?_) ?_ ?_
    rotate_left
    ·simp only [putAll, Own.putL]
     rfl
    refine two_ (i := 5) (j := 9) (Ni := some 19) (Nj := some 6) #[true,true,true,true,true,true,false,false,false,false,false,false] #[true,true,true,true,true,false,false,false,false,true,false,false] rfl rfl rfl rfl (by kernel_rfl) (by decide) (by decide) (fun K hK => ?_) (fun K hK => ?_)
    ·skip
     refine goes_ Try.func76 (by kernel_rfl) rfl #[.agg #[.int .i64 (R : Int), .int .i64 (cn : Int), .slice (some ⟨g, 0, none⟩) l0_2.length cap], .slice Ag gs.length cg, .int .i64 a1] (by rfl) rfl rfl Own.mapd ?_
     with_reducible refine (DR.out wy _ g cap Ag cg HZ.out HR.out (Kd.C_kept_own HG.out (fun k hk_ => hk_)) (Kd.R_reads' HG.out).2.1).mono ?_
     rintro e w1 ⟨vw, rfl, _, hb, hk⟩
     refine ⟨_, rfl, ?_⟩
     replace HZ := Aside0.mk hb
     clear hb hk HR HG
     refine hK.out _ _ ⟨(blk_cell (blk_below BA.out HZ.out) 0).trans rfl, (blk_cell (blk_below BA.out HZ.out) 1).trans rfl, (blk_cell (blk_below BA.out HZ.out) 2).trans rfl⟩ (fun hHeld => ?_)
     clear hK K
     refine Own.nm_ (some 19) ?_
     refine Own.pu_ (i := 6) (N := some 13) #[true,true,true,true,true,true,true,false,false,false,false,false] ?_
     refine Own.pu_ (i := 7) (N := some 20) #[true,true,true,true,true,true,true,true,false,false,false,false] ?_
     refine Own.pu_ (i := 8) (N := some 21) #[true,true,true,true,true,true,true,true,true,false,false,false] ?_
     exact norm_ (by simp only [putAll, Own.putL]) (hJ30 (g, cap, Ag, cg, vw, 0) _ ⟨hHeld, HZ.out⟩)
    ·skip
     refine box_step (by rfl) (N := 6) rfl (cs := #[.int .i64 0, .int .i64 0, .int .i64 0]) (t := 81) ?hr ?_
     case hr => first | (go_simp; done) | (go_simp; rfl)
     intro g6 hg w1 hbox hb
     have LX : Aside0 (wy.heap.size ≤ g6) := ⟨by rw [hg]; exact HZ.out.size⟩
     replace HR := Aside0.mk (Kd.R_below HR.out hb)
     replace HG := Aside0.mk (Kd.R_below HG.out hb)
     replace HZ := Aside0.mk (below_step HZ.out hb)
     have HX := Aside0.mk hbox
     clear hg hb hbox
     refine hK.out _ _ ⟨(blk_cell (blk_below BA.out HZ.out) 0).trans rfl, (blk_cell (blk_below BA.out HZ.out) 1).trans rfl, (blk_cell (blk_below BA.out HZ.out) 2).trans rfl⟩ (fun hHeld => ?_)
     clear hK K
     refine Own.nm_ (some 6) ?_
     exact norm_ (by simp only [putAll, Own.putL]) (hJ21 (g, cap, Ag, cg, undef, g6) _ ⟨hHeld, HZ.out, HR.out, HG.out, HX.out, LX.out⟩)
   clear HZ hHeld
   rintro ⟨g, cap, Ag, cg, vw, g6⟩ wj ⟨hHeld, hz, hr, hg, hx, lx⟩
   have HZ := Aside0.mk hz
   have HR := Aside0.mk hr
   have HG := Aside0.mk hg
   have HX := Aside0.mk hx
   have LX := Aside0.mk lx
   clear hz hr hg hx lx
   refine norm_ (a' := ?_) ?_ ?_
   rotate_left
   ·simp only [putAll, Own.putL]
    rfl
   refine one_ (i := 5) (N := some 19) #[true,true,true,true,true,true,false,false,false,true,false,false] rfl rfl (by kernel_rfl) (by decide) (fun K hK => ?_)
   refine goes_ Try.func76 (by kernel_rfl) rfl #[.agg #[.int .i64 (R : Int), .int .i64 (cn : Int), .slice (some ⟨g, 0, none⟩) l0_2.length cap], .slice Ag gs.length cg, .int .i64 a1] (by rfl) rfl rfl Own.mapd ?_
   with_reducible refine (DR.out wy _ g cap Ag cg HZ.out HR.out (Kd.C_kept_own HG.out (fun k hk_ => hk_)) (Kd.R_reads' HG.out).2.1).mono ?_
   rintro e w1 ⟨vw, rfl, _, hb, hk⟩
   refine ⟨_, rfl, ?_⟩
   have hx6 : ¬ (g6 = g) := fun e_ => by have h1_ : some g6 ≠ some g := Kd.R_ne HR.out HX.out (by decide); exact h1_ (by rw [e_])
   replace HX := Aside0.mk (blk_kept HX.out hk hx6)
   clear hx6
   replace HZ := Aside0.mk hb
   clear hb hk HR HG
   refine hK.out _ _ ⟨(blk_cell (blk_below BA.out HZ.out) 0).trans rfl, (blk_cell (blk_below BA.out HZ.out) 1).trans rfl, (blk_cell (blk_below BA.out HZ.out) 2).trans rfl⟩ (fun hHeld => ?_)
   clear hK K
   refine Own.nm_ (some 19) ?_
   refine Own.pu_ (i := 6) (N := some 13) #[true,true,true,true,true,true,true,false,false,true,false,false] ?_
   refine Own.pu_ (i := 7) (N := some 20) #[true,true,true,true,true,true,true,true,false,true,false,false] ?_
   refine Own.pu_ (i := 8) (N := some 21) #[true,true,true,true,true,true,true,true,true,true,false,false] ?_
   exact norm_ (by simp only [putAll, Own.putL]) (hJ31 (g, cap, Ag, cg, vw, g6) _ ⟨hHeld, HZ.out, HX.out, LX.out⟩)
  clear HZ hHeld
  rintro ⟨g, cap, Ag, cg, vw, g6⟩ wj ⟨hHeld, hz⟩
  have HZ := Aside0.mk hz
  clear hz
  refine norm_ (a' := ?_) ?_ ?_
  rotate_left
  ·simp only [putAll, Own.putL]
   rfl
  refine one_ (i := 9) (N := some 6) #[true,true,true,true,true,true,true,true,true,true,false,false] rfl rfl (by kernel_rfl) (by decide) (fun K hK => ?_)
  refine box_step (by rfl) (N := 6) rfl (cs := #[.int .i64 0, .int .i64 0, .int .i64 0]) (t := 81) ?hr ?_
  case hr => first | (go_simp; done) | (go_simp; rfl)
  intro g6 hg w1 hbox hb
  have LX : Aside0 (wy.heap.size ≤ g6) := ⟨by rw [hg]; exact HZ.out.size⟩
  replace HZ := Aside0.mk (below_step HZ.out hb)
  have HX := Aside0.mk hbox
  clear hg hb hbox
  refine hK.out _ _ ⟨(blk_cell (blk_below BA.out HZ.out) 0).trans rfl, (blk_cell (blk_below BA.out HZ.out) 1).trans rfl, (blk_cell (blk_below BA.out HZ.out) 2).trans rfl⟩ (fun hHeld => ?_)
  clear hK K
  refine Own.nm_ (some 6) ?_
  exact norm_ (by simp only [putAll, Own.putL]) (hJ31 (g, cap, Ag, cg, vw, g6) _ ⟨hHeld, HZ.out, HX.out, LX.out⟩)
 clear HZ hHeld
 rintro ⟨g, cap, Ag, cg, vw, g6⟩ wj ⟨hHeld, hz, hx, lx⟩
 have HZ := Aside0.mk hz
 have HX := Aside0.mk hx
 have LX := Aside0.mk lx
 clear hz hx lx
 refine norm_ (a' := ?_) ?_ ?_
 rotate_left
 ·simp only [putAll, Own.putL]
  rfl
 have NF : w.heap.size ≠ g6 := by have h1_ := blk_lt BA.out; have h2_ : wy.heap.size ≤ g6 := LX.out; omega
 have NF1 : w.heap.size + 1 ≠ g6 := by have h1_ := blk_lt BF.out; have h2_ : wy.heap.size ≤ g6 := LX.out; omega
 have s60 := (blk_cell HX.out 0).trans rfl
 have s61 := (blk_cell HX.out 1).trans rfl
 have s62 := (blk_cell HX.out 2).trans rfl
 have f60 := blk_frozen HX.out 0
 have f61 := blk_frozen HX.out 1
 have f62 := blk_frozen HX.out 2
 refine one_ (i := 10) (N := none) #[true,true,true,true,true,true,true,true,true,true,true,false] rfl rfl (by kernel_rfl) (by decide) (fun K hK => ?_)
 refine skip_ (w1 := (((wj.setCell ⟨g6, 0, none⟩ (.int .i64 q1)).setCell ⟨g6, 1, none⟩ (.int .i64 q2)).setCell ⟨g6, 2, none⟩ (.int .i64 q3))) (by rfl) rfl ?_ ?_
 ·first | (go_simp; done) | (go_simp; rfl)
 have X3 := blk_put (cs' := #[.int .i64 q1, .int .i64 q2, .int .i64 q3]) (blk_put (cs' := #[.int .i64 q1, .int .i64 q2, .int .i64 0]) (blk_put (cs' := #[.int .i64 q1, .int .i64 0, .int .i64 0]) HX.out 0 (.int .i64 q1) rfl) 1 (.int .i64 q2) rfl) 2 (.int .i64 q3) rfl
 have A3 := blk_far (blk_far (blk_far (blk_below BA.out HZ.out) (p := ⟨g6, 0, none⟩) NF (.int .i64 q1)) (p := ⟨g6, 1, none⟩) NF (.int .i64 q2)) (p := ⟨g6, 2, none⟩) NF (.int .i64 q3)
 have F3 := blk_far (blk_far (blk_far (blk_below BF.out HZ.out) (p := ⟨g6, 0, none⟩) NF1 (.int .i64 q1)) (p := ⟨g6, 1, none⟩) NF1 (.int .i64 q2)) (p := ⟨g6, 2, none⟩) NF1 (.int .i64 q3)
 have Z3 := below_set (j := 2) (v := .int .i64 q3) (below_set (j := 1) (v := .int .i64 q2) (below_set (j := 0) (v := .int .i64 q1) HZ.out LX.out) LX.out) LX.out
 clear s60 s61 s62 f60 f61 f62 HX HZ hHeld NF NF1
 generalize (((wj.setCell ⟨g6, 0, none⟩ (.int .i64 q1)).setCell ⟨g6, 1, none⟩ (.int .i64 q2)).setCell ⟨g6, 2, none⟩ (.int .i64 q3)) = wk at X3 A3 F3 Z3 hK ⊢
 refine hK.out _ _ ⟨(blk_cell A3 0).trans rfl, (blk_cell A3 1).trans rfl, (blk_cell A3 2).trans rfl⟩ (fun hHeld => ?_)
 clear hK K A3
 refine Own.pu_ (i := 11) (N := some 7) #[true,true,true,true,true,true,true,true,true,true,true,true] ?_
 refine done_ (by kernel_rfl) ?_
 clear hHeld
 have x0 := (blk_cell X3 0).trans rfl
 have x1 := (blk_cell X3 1).trans rfl
 have x2 := (blk_cell X3 2).trans rfl
 have s60 := (blk_cell F3 0).trans rfl
 have s61 := (blk_cell F3 1).trans rfl
 have s62 := (blk_cell F3 2).trans rfl
 have f60 := blk_frozen F3 0
 have f61 := blk_frozen F3 1
 have f62 := blk_frozen F3 2
 go_wp2
 have G6 := blk_put (cs' := #[.int .i64 q1, .int .i64 q2, .int .i64 q3]) (blk_put (cs' := #[.int .i64 q1, .int .i64 q2, .int .i64 0]) (blk_put (cs' := #[.int .i64 q1, .int .i64 0, .int .i64 0]) F3 0 (.int .i64 q1) rfl) 1 (.int .i64 q2) rfl) 2 (.int .i64 q3) rfl
 have Z6 := below_set (j := 2) (v := .int .i64 q3) (below_set (j := 1) (v := .int .i64 q2) (below_set (j := 0) (v := .int .i64 q1) (below_step HB0.out Z3) (g := w.heap.size + 1) (Nat.le_add_right _ 1)) (Nat.le_add_right _ 1)) (Nat.le_add_right _ 1)
 have e0 := (blk_cell G6 0).trans rfl
 have e1 := (blk_cell G6 1).trans rfl
 have e2 := (blk_cell G6 2).trans rfl
 exact bodyPost_ret (v := .tuple #[.agg #[.int .i64 q1, .int .i64 q2, .int .i64 q3], .bool true]) (by simp [results, Try.results94, go_sem, e0, e1, e2]) rfl ⟨rfl, Z6⟩
end Go.Proofs.Ytcilbmbgdcepgaa.P
