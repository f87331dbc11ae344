/- The walk of spec.flRun over ggGroups and flGo (printed by gen_flrun.py). -/
import Derived.Test.YtcilbmbgdcepgaaYFnExactAddsWithAFall
import Derived.Test.YtcilbmbgdcepgaaOwnW
import Derived.Test.YtcilbmbgdcepgaaYFnExactAddsWithPx78
import Derived.Test.YtcilbmbgdcepgaaYFnExactAddsWithPx75
namespace Go.Proofs.Ytcilbmbgdcepgaa.P
open Go.RowKit YtcilbmbgdcepgaaW.PrintWords YtcilbmbgdcepgaaW.PrintLast YtcilbmbgdcepgaaW.PrintMore Own A
set_option linter.unusedVariables false
set_option linter.unusedSimpArgs false
/-! ### spec_flRun: function 72 -/
def FallFit (R C : Int) (l : List S71) (col : Int) : Prop := BoOk R C l ∧ 0 ≤ col ∧ col < C
instance (R C : Int) (l : List S71) (col : Int) : Decidable (FallFit R C l col) := by unfold FallFit; infer_instance
def spec_flRun.f (k : Nat) (a0_0 : Int) (a0_1 : Int) (l0_2 : List (S71)) (a1 : Int) : Option (Int × Int × Int × Int × Int × (List (S71))) := if FallFit a0_0 a0_1 l0_2 a1 then some ((fallL a0_0.toNat a0_1.toNat l0_2 a1).1.1, (fallL a0_0.toNat a0_1.toNat l0_2 a1).1.2.1, (fallL a0_0.toNat a0_1.toNat l0_2 a1).1.2.2, a0_0, a0_1, (fallL a0_0.toNat a0_1.toNat l0_2 a1).2) else none
theorem spec_flRun.mono : ∀ a0 a1 a2 a3 k, LeO (spec_flRun.f k a0 a1 a2 a3) (spec_flRun.f (k + 1) a0 a1 a2 a3) := fun _ _ _ _ _ _ h => h
set_option maxHeartbeats 16000000 in
set_option maxRecDepth 100000 in
theorem spec_flRun.calls (k : Nat) (a0_0 : Int) (a0_1 : Int) (A0_2 : Option Addr) (c0_2 : Nat) (l0_2 : List (S71)) (a1 : Int) (r1 : Int) (r2 : Int) (r3 : Int) (r4 : Int) (r5 : Int) (r6 : List (S71)) (w : World) (hr0_2 : Kd.C k71 w A0_2 l0_2.length l0_2) (hc0_2 : l0_2.length ≤ c0_2) (h : spec_flRun.f k a0_0 a0_1 l0_2 a1 = some (r1, r2, r3, r4, r5, r6)) :
  Calls Try.prog 72 #[.agg #[.int .i64 a0_0, .int .i64 a0_1, .slice A0_2 l0_2.length c0_2], .int .i64 a1] w fun e w' => ∃ v5_ : Value, e = .returned (.tuple #[.agg #[.int .i64 r1, .int .i64 r2, .int .i64 r3], .agg #[.int .i64 r4, .int .i64 r5, v5_]]) ∧ Kd.R k71 71 w' w.heap.size (fun _ => True) v5_ r6 ∧ Below w.heap.size w w' := by
 have hu24 := Try.underlying24
 have hu65 := Try.underlying81
 unfold spec_flRun.f at h
 by_cases hk : FallFit a0_0 a0_1 l0_2 a1
 case neg => rw [if_neg hk] at h; simp at h
 rw [if_pos hk] at h
 simp only [Option.some.injEq, Prod.mk.injEq] at h
 obtain ⟨rfl, rfl, rfl, rfl, rfl, rfl⟩ := h
 obtain ⟨hb, h0, h1⟩ := hk
 obtain ⟨R, rfl⟩ : ∃ m : Nat, a0_0 = (m : Int) := ⟨a0_0.toNat, by have := hb.1.1; omega⟩
 obtain ⟨cn, rfl⟩ : ∃ m : Nat, a0_1 = (m : Int) := ⟨a0_1.toNat, by have := hb.2.1.1; omega⟩
 rw [Int.toNat_natCast, Int.toNat_natCast]
 obtain ⟨gs, hgs⟩ : ∃ gs, gs = grpL R cn l0_2 := ⟨_, rfl⟩
 have GG : Aside0 (spec_ggGroups.f 0 (R : Int) (cn : Int) l0_2 = some gs) := ⟨by unfold spec_ggGroups.f; rw [if_pos hb, Int.toNat_natCast, Int.toNat_natCast, hgs]⟩
 have hgl : gs.length = R * cn := by rw [hgs]; exact grpL_len R cn l0_2
 obtain ⟨p, hp⟩ : ∃ p, p = fallL R cn l0_2 a1 := ⟨_, rfl⟩
 rw [← hp]
 obtain ⟨⟨q1, q2, q3⟩, cs⟩ := p
 simp only
 have GO : Aside0 (∀ (w' : World) (Ag : Option Addr) (cg : Nat), Kd.C k71 w' A0_2 l0_2.length l0_2 → Kd.C (Kd.int .i64) w' Ag gs.length gs → gs.length ≤ cg → Calls Try.prog 92 #[.agg #[.int .i64 (R : Int), .int .i64 (cn : Int), .slice A0_2 l0_2.length c0_2], .slice Ag gs.length cg, .int .i64 a1] w' fun e_ w'' => GoMade w' R cn ((q1, q2, q3), cs) e_ w'') := ⟨by intro w' Ag cg hC' hG' hgc'; have h_ := flGo_own R cn A0_2 c0_2 l0_2 Ag cg gs a1 w' hC' hc0_2 hG' hgc' hb hgl h0 h1; rw [hgs] at h_ ⊢; rw [hp]; exact h_⟩
 have HC := Aside0.mk hr0_2
 have HCC := Aside0.mk hc0_2
 have z1 : (w.alloc (.cells #[.int .i64 (R : Int), .int .i64 (cn : Int), .slice A0_2 l0_2.length c0_2] 24)).heap.size = w.heap.size + 1 := Array.size_push _
 have z2 : ((w.alloc (.cells #[.int .i64 (R : Int), .int .i64 (cn : Int), .slice A0_2 l0_2.length c0_2] 24)).alloc (.cells #[.int .i64 0, .int .i64 0, .int .i64 0] 81)).heap.size = w.heap.size + 2 := (Array.size_push _).trans (by rw [z1])
 have BA := Aside0.mk (blk_alloc (blk_alloc (blk_new w (.cells #[.int .i64 (R : Int), .int .i64 (cn : Int), .slice A0_2 l0_2.length c0_2] 24)) (.cells #[.int .i64 0, .int .i64 0, .int .i64 0] 81)) (.cells #[.int .i64 0, .int .i64 0, .slice none 0 0] 24))
 have BF := Aside0.mk (blk_alloc (blk_new (w.alloc (.cells #[.int .i64 (R : Int), .int .i64 (cn : Int), .slice A0_2 l0_2.length c0_2] 24)) (.cells #[.int .i64 0, .int .i64 0, .int .i64 0] 81)) (.cells #[.int .i64 0, .int .i64 0, .slice none 0 0] 24))
 have BB := Aside0.mk (blk_new ((w.alloc (.cells #[.int .i64 (R : Int), .int .i64 (cn : Int), .slice A0_2 l0_2.length c0_2] 24)).alloc (.cells #[.int .i64 0, .int .i64 0, .int .i64 0] 81)) (.cells #[.int .i64 0, .int .i64 0, .slice none 0 0] 24))
 rw [z1] at BF
 rw [z2] at BB
 have HB0 := Aside0.mk (below_alloc (below_alloc (below_alloc (Below.refl w.heap.size w) (.cells #[.int .i64 (R : Int), .int .i64 (cn : Int), .slice A0_2 l0_2.length c0_2] 24)) (.cells #[.int .i64 0, .int .i64 0, .int .i64 0] 81)) (.cells #[.int .i64 0, .int .i64 0, .slice none 0 0] 24))
 clear hr0_2 hc0_2 hb h0 h1 hgl hgs hp z1 z2
 go_enter Try.func72, Try.ntmps72
 go_wp2
 generalize (((w.alloc (.cells #[.int .i64 (R : Int), .int .i64 (cn : Int), .slice A0_2 l0_2.length c0_2] 24)).alloc (.cells #[.int .i64 0, .int .i64 0, .int .i64 0] 81)).alloc (.cells #[.int .i64 0, .int .i64 0, .slice none 0 0] 24)) = wn at BA BF BB HB0 ⊢
 refine start_ (n := 14) (S := fun w' => w'.cell? ⟨w.heap.size, 0, none⟩ = some (.int .i64 (R : Int)) ∧ w'.cell? ⟨w.heap.size, 1, none⟩ = some (.int .i64 (cn : Int)) ∧ w'.cell? ⟨w.heap.size, 2, none⟩ = some (.slice A0_2 l0_2.length c0_2)) (ds := []) #[false,false,false,false,false,false,false,false,false,false,false,false,false,false] (by kernel_rfl) rfl rfl ⟨(blk_cell BA.out 0).trans rfl, (blk_cell BA.out 1).trans rfl, (blk_cell BA.out 2).trans rfl⟩ (fun hHeld => ?_)
 refine Own.anew_ (wN := wn) Own.bel hHeld (fun wy hzb hHeld => ?_)
 replace BA := Aside0.mk (blk_below BA.out hzb)
 replace BF := Aside0.mk (blk_below BF.out hzb)
 replace BB := Aside0.mk (blk_below BB.out hzb)
 replace HB0 := Aside0.mk (below_step HB0.out hzb)
 have HZ := Aside0.mk (Below.refl wy.heap.size wy)
 clear hzb
 refine Own.tk_ (i := 0) (N := some 10) #[true,false,false,false,false,false,false,false,false,false,false,false,false,false] hHeld ?_
 refine Own.tk_ (i := 1) (N := some 11) #[true,true,false,false,false,false,false,false,false,false,false,false,false,false] hHeld ?_
 refine Own.pu_ (i := 3) (N := some 13) #[true,true,false,true,false,false,false,false,false,false,false,false,false,false] ?_
 refine join_ (σ := Option Addr × Nat × Option Addr × Nat × Value × Nat × Nat) 3 #[true,true,true,true,true,true,true,true,true,true,true,false,false,false] (fun s_ => [(12, .slice s_.1 gs.length s_.2.1), (14, .tuple #[.agg #[.int .i64 q1, .int .i64 q2, .int .i64 q3], .agg #[.int .i64 (R : Int), .int .i64 (cn : Int), .slice s_.2.2.1 cs.length s_.2.2.2.1], s_.2.2.2.2.1]), (9, .tuple #[.agg #[.int .i64 q1, .int .i64 q2, .int .i64 q3], .agg #[.int .i64 (R : Int), .int .i64 (cn : Int), .slice s_.2.2.1 cs.length s_.2.2.2.1], s_.2.2.2.2.1]), (15, .agg #[.int .i64 q1, .int .i64 q2, .int .i64 q3]), (16, .agg #[.int .i64 (R : Int), .int .i64 (cn : Int), .slice s_.2.2.1 cs.length s_.2.2.2.1]), (17, s_.2.2.2.2.1), (6, .pointer (some ⟨s_.2.2.2.2.2.1, 0, none⟩)), (7, .pointer (some ⟨s_.2.2.2.2.2.2, 0, none⟩))]) (fun s_ w' => (w'.cell? ⟨w.heap.size, 0, none⟩ = some (.int .i64 (R : Int)) ∧ w'.cell? ⟨w.heap.size, 1, none⟩ = some (.int .i64 (cn : Int)) ∧ w'.cell? ⟨w.heap.size, 2, none⟩ = some (.slice A0_2 l0_2.length c0_2)) ∧ Below wy.heap.size wy w' ∧ Kd.R k71 71 w' wy.heap.size (fun _ => True) (.slice s_.2.2.1 cs.length s_.2.2.2.1) cs ∧ w'.heap[s_.2.2.2.2.2.1]? = some (.cells #[.int .i64 0, .int .i64 0, .int .i64 0] 81 (0, 0)) ∧ wy.heap.size ≤ s_.2.2.2.2.2.1 ∧ w'.heap[s_.2.2.2.2.2.2]? = some (.cells #[.int .i64 0, .int .i64 0, .slice none 0 0] 24 (0, 0)) ∧ wy.heap.size ≤ s_.2.2.2.2.2.2) ?_ ?_
 rotate_left
 ·intro hJ211
  refine join_ (σ := Option Addr × Nat × Option Addr × Nat × Value × Nat × Nat) 4 #[true,true,true,true,true,true,true,true,true,false,true,false,false,false] (fun s_ => [(12, .slice s_.1 gs.length s_.2.1), (14, .tuple #[.agg #[.int .i64 q1, .int .i64 q2, .int .i64 q3], .agg #[.int .i64 (R : Int), .int .i64 (cn : Int), .slice s_.2.2.1 cs.length s_.2.2.2.1], s_.2.2.2.2.1]), (9, .tuple #[.agg #[.int .i64 q1, .int .i64 q2, .int .i64 q3], .agg #[.int .i64 (R : Int), .int .i64 (cn : Int), .slice s_.2.2.1 cs.length s_.2.2.2.1], s_.2.2.2.2.1]), (15, .agg #[.int .i64 q1, .int .i64 q2, .int .i64 q3]), (16, .agg #[.int .i64 (R : Int), .int .i64 (cn : Int), .slice s_.2.2.1 cs.length s_.2.2.2.1]), (17, s_.2.2.2.2.1), (7, .pointer (some ⟨s_.2.2.2.2.2.2, 0, none⟩))]) (fun s_ w' => (w'.cell? ⟨w.heap.size, 0, none⟩ = some (.int .i64 (R : Int)) ∧ w'.cell? ⟨w.heap.size, 1, none⟩ = some (.int .i64 (cn : Int)) ∧ w'.cell? ⟨w.heap.size, 2, none⟩ = some (.slice A0_2 l0_2.length c0_2)) ∧ Below wy.heap.size wy w' ∧ Kd.R k71 71 w' wy.heap.size (fun _ => True) (.slice s_.2.2.1 cs.length s_.2.2.2.1) cs ∧ w'.heap[s_.2.2.2.2.2.2]? = some (.cells #[.int .i64 0, .int .i64 0, .slice none 0 0] 24 (0, 0)) ∧ wy.heap.size ≤ s_.2.2.2.2.2.2) ?_ ?_
  rotate_left
  ·intro hJ201
   refine join_ (σ := Option Addr × Nat × Option Addr × Nat × Value × Nat × Nat) 4 #[true,true,true,true,true,true,true,true,true,true,false,false,false,false] (fun s_ => [(12, .slice s_.1 gs.length s_.2.1), (14, .tuple #[.agg #[.int .i64 q1, .int .i64 q2, .int .i64 q3], .agg #[.int .i64 (R : Int), .int .i64 (cn : Int), .slice s_.2.2.1 cs.length s_.2.2.2.1], s_.2.2.2.2.1]), (9, .tuple #[.agg #[.int .i64 q1, .int .i64 q2, .int .i64 q3], .agg #[.int .i64 (R : Int), .int .i64 (cn : Int), .slice s_.2.2.1 cs.length s_.2.2.2.1], s_.2.2.2.2.1]), (15, .agg #[.int .i64 q1, .int .i64 q2, .int .i64 q3]), (16, .agg #[.int .i64 (R : Int), .int .i64 (cn : Int), .slice s_.2.2.1 cs.length s_.2.2.2.1]), (17, s_.2.2.2.2.1), (6, .pointer (some ⟨s_.2.2.2.2.2.1, 0, none⟩))]) (fun s_ w' => (w'.cell? ⟨w.heap.size, 0, none⟩ = some (.int .i64 (R : Int)) ∧ w'.cell? ⟨w.heap.size, 1, none⟩ = some (.int .i64 (cn : Int)) ∧ w'.cell? ⟨w.heap.size, 2, none⟩ = some (.slice A0_2 l0_2.length c0_2)) ∧ Below wy.heap.size wy w' ∧ Kd.R k71 71 w' wy.heap.size (fun _ => True) (.slice s_.2.2.1 cs.length s_.2.2.2.1) cs ∧ w'.heap[s_.2.2.2.2.2.1]? = some (.cells #[.int .i64 0, .int .i64 0, .int .i64 0] 81 (0, 0)) ∧ wy.heap.size ≤ s_.2.2.2.2.2.1) ?_ ?_
   rotate_left
   ·intro hJ210
    refine join_ (σ := Option Addr × Nat × Option Addr × Nat × Value × Nat × Nat) 8 #[true,true,true,true,false,false,false,false,false,true,true,false,false,false] (fun s_ => [(12, .slice s_.1 gs.length s_.2.1), (6, .pointer (some ⟨s_.2.2.2.2.2.1, 0, none⟩)), (7, .pointer (some ⟨s_.2.2.2.2.2.2, 0, none⟩))]) (fun s_ w' => (w'.cell? ⟨w.heap.size, 0, none⟩ = some (.int .i64 (R : Int)) ∧ w'.cell? ⟨w.heap.size, 1, none⟩ = some (.int .i64 (cn : Int)) ∧ w'.cell? ⟨w.heap.size, 2, none⟩ = some (.slice A0_2 l0_2.length c0_2)) ∧ Below wy.heap.size wy w' ∧ Kd.R (Kd.int .i64) 3 w' wy.heap.size (fun _ => True) (.slice s_.1 gs.length s_.2.1) gs ∧ w'.heap[s_.2.2.2.2.2.1]? = some (.cells #[.int .i64 0, .int .i64 0, .int .i64 0] 81 (0, 0)) ∧ wy.heap.size ≤ s_.2.2.2.2.2.1 ∧ w'.heap[s_.2.2.2.2.2.2]? = some (.cells #[.int .i64 0, .int .i64 0, .slice none 0 0] 24 (0, 0)) ∧ wy.heap.size ≤ s_.2.2.2.2.2.2) ?_ ?_
    rotate_left
    ·intro hJ111
     refine join_ (σ := Option Addr × Nat × Option Addr × Nat × Value × Nat × Nat) 5 #[true,true,true,true,true,true,true,true,true,false,false,false,false,false] (fun s_ => [(12, .slice s_.1 gs.length s_.2.1), (14, .tuple #[.agg #[.int .i64 q1, .int .i64 q2, .int .i64 q3], .agg #[.int .i64 (R : Int), .int .i64 (cn : Int), .slice s_.2.2.1 cs.length s_.2.2.2.1], s_.2.2.2.2.1]), (9, .tuple #[.agg #[.int .i64 q1, .int .i64 q2, .int .i64 q3], .agg #[.int .i64 (R : Int), .int .i64 (cn : Int), .slice s_.2.2.1 cs.length s_.2.2.2.1], s_.2.2.2.2.1]), (15, .agg #[.int .i64 q1, .int .i64 q2, .int .i64 q3]), (16, .agg #[.int .i64 (R : Int), .int .i64 (cn : Int), .slice s_.2.2.1 cs.length s_.2.2.2.1]), (17, s_.2.2.2.2.1)]) (fun s_ w' => (w'.cell? ⟨w.heap.size, 0, none⟩ = some (.int .i64 (R : Int)) ∧ w'.cell? ⟨w.heap.size, 1, none⟩ = some (.int .i64 (cn : Int)) ∧ w'.cell? ⟨w.heap.size, 2, none⟩ = some (.slice A0_2 l0_2.length c0_2)) ∧ Below wy.heap.size wy w' ∧ Kd.R k71 71 w' wy.heap.size (fun _ => True) (.slice s_.2.2.1 cs.length s_.2.2.2.1) cs) ?_ ?_
     rotate_left
     ·intro hJ200
      refine join_ (σ := Option Addr × Nat × Option Addr × Nat × Value × Nat × Nat) 9 #[true,true,true,true,false,false,false,false,false,false,true,false,false,false] (fun s_ => [(12, .slice s_.1 gs.length s_.2.1), (7, .pointer (some ⟨s_.2.2.2.2.2.2, 0, none⟩))]) (fun s_ w' => (w'.cell? ⟨w.heap.size, 0, none⟩ = some (.int .i64 (R : Int)) ∧ w'.cell? ⟨w.heap.size, 1, none⟩ = some (.int .i64 (cn : Int)) ∧ w'.cell? ⟨w.heap.size, 2, none⟩ = some (.slice A0_2 l0_2.length c0_2)) ∧ Below wy.heap.size wy w' ∧ Kd.R (Kd.int .i64) 3 w' wy.heap.size (fun _ => True) (.slice s_.1 gs.length s_.2.1) gs ∧ w'.heap[s_.2.2.2.2.2.2]? = some (.cells #[.int .i64 0, .int .i64 0, .slice none 0 0] 24 (0, 0)) ∧ wy.heap.size ≤ s_.2.2.2.2.2.2) ?_ ?_
      rotate_left
      ·intro hJ101
       refine join_ (σ := Option Addr × Nat × Option Addr × Nat × Value × Nat × Nat) 9 #[true,true,true,true,false,false,false,false,false,true,false,false,false,false] (fun s_ => [(12, .slice s_.1 gs.length s_.2.1), (6, .pointer (some ⟨s_.2.2.2.2.2.1, 0, none⟩))]) (fun s_ w' => (w'.cell? ⟨w.heap.size, 0, none⟩ = some (.int .i64 (R : Int)) ∧ w'.cell? ⟨w.heap.size, 1, none⟩ = some (.int .i64 (cn : Int)) ∧ w'.cell? ⟨w.heap.size, 2, none⟩ = some (.slice A0_2 l0_2.length c0_2)) ∧ Below wy.heap.size wy w' ∧ Kd.R (Kd.int .i64) 3 w' wy.heap.size (fun _ => True) (.slice s_.1 gs.length s_.2.1) gs ∧ w'.heap[s_.2.2.2.2.2.1]? = some (.cells #[.int .i64 0, .int .i64 0, .int .i64 0] 81 (0, 0)) ∧ wy.heap.size ≤ s_.2.2.2.2.2.1) ?_ ?_
       rotate_left
       ·intro hJ110
        refine join_ (σ := Option Addr × Nat × Option Addr × Nat × Value × Nat × Nat) 9 #[true,true,false,true,false,false,false,false,false,true,true,false,false,false] (fun s_ => [(6, .pointer (some ⟨s_.2.2.2.2.2.1, 0, none⟩)), (7, .pointer (some ⟨s_.2.2.2.2.2.2, 0, none⟩))]) (fun s_ w' => (w'.cell? ⟨w.heap.size, 0, none⟩ = some (.int .i64 (R : Int)) ∧ w'.cell? ⟨w.heap.size, 1, none⟩ = some (.int .i64 (cn : Int)) ∧ w'.cell? ⟨w.heap.size, 2, none⟩ = some (.slice A0_2 l0_2.length c0_2)) ∧ Below wy.heap.size wy w' ∧ w'.heap[s_.2.2.2.2.2.1]? = some (.cells #[.int .i64 0, .int .i64 0, .int .i64 0] 81 (0, 0)) ∧ wy.heap.size ≤ s_.2.2.2.2.2.1 ∧ w'.heap[s_.2.2.2.2.2.2]? = some (.cells #[.int .i64 0, .int .i64 0, .slice none 0 0] 24 (0, 0)) ∧ wy.heap.size ≤ s_.2.2.2.2.2.2) ?_ ?_
        rotate_left
        ·intro hJ011
         refine join_ (σ := Option Addr × Nat × Option Addr × Nat × Value × Nat × Nat) 10 #[true,true,true,true,false,false,false,false,false,false,false,false,false,false] (fun s_ => [(12, .slice s_.1 gs.length s_.2.1)]) (fun s_ w' => (w'.cell? ⟨w.heap.size, 0, none⟩ = some (.int .i64 (R : Int)) ∧ w'.cell? ⟨w.heap.size, 1, none⟩ = some (.int .i64 (cn : Int)) ∧ w'.cell? ⟨w.heap.size, 2, none⟩ = some (.slice A0_2 l0_2.length c0_2)) ∧ Below wy.heap.size wy w' ∧ Kd.R (Kd.int .i64) 3 w' wy.heap.size (fun _ => True) (.slice s_.1 gs.length s_.2.1) gs) ?_ ?_
         rotate_left
         ·intro hJ100
          refine join_ (σ := Option Addr × Nat × Option Addr × Nat × Value × Nat × Nat) 10 #[true,true,false,true,false,false,false,false,false,false,true,false,false,false] (fun s_ => [(7, .pointer (some ⟨s_.2.2.2.2.2.2, 0, none⟩))]) (fun s_ w' => (w'.cell? ⟨w.heap.size, 0, none⟩ = some (.int .i64 (R : Int)) ∧ w'.cell? ⟨w.heap.size, 1, none⟩ = some (.int .i64 (cn : Int)) ∧ w'.cell? ⟨w.heap.size, 2, none⟩ = some (.slice A0_2 l0_2.length c0_2)) ∧ Below wy.heap.size wy w' ∧ w'.heap[s_.2.2.2.2.2.2]? = some (.cells #[.int .i64 0, .int .i64 0, .slice none 0 0] 24 (0, 0)) ∧ wy.heap.size ≤ s_.2.2.2.2.2.2) ?_ ?_
          rotate_left
          ·intro hJ001
           refine join_ (σ := Option Addr × Nat × Option Addr × Nat × Value × Nat × Nat) 10 #[true,true,false,true,false,false,false,false,false,true,false,false,false,false] (fun s_ => [(6, .pointer (some ⟨s_.2.2.2.2.2.1, 0, none⟩))]) (fun s_ w' => (w'.cell? ⟨w.heap.size, 0, none⟩ = some (.int .i64 (R : Int)) ∧ w'.cell? ⟨w.heap.size, 1, none⟩ = some (.int .i64 (cn : Int)) ∧ w'.cell? ⟨w.heap.size, 2, none⟩ = some (.slice A0_2 l0_2.length c0_2)) ∧ Below wy.heap.size wy w' ∧ w'.heap[s_.2.2.2.2.2.1]? = some (.cells #[.int .i64 0, .int .i64 0, .int .i64 0] 81 (0, 0)) ∧ wy.heap.size ≤ s_.2.2.2.2.2.1) ?_ ?_
           rotate_left
           ·intro hJ010
            refine three_ (i := 2) (j := 9) (k := 10) (Ni := some 12) (Nj := some 6) (Nk := some 7) #[true,true,true,true,false,false,false,false,false,false,false,false,false,false] #[true,true,false,true,false,false,false,false,false,true,false,false,false,false] #[true,true,false,true,false,false,false,false,false,false,true,false,false,false] rfl rfl rfl rfl rfl rfl (by kernel_rfl) (by decide) (by decide) (by decide) (fun K hK => ?_) (fun K hK => ?_) (fun K hK => ?_)
            ·skip
             refine goes_ Try.func93 (by kernel_rfl) rfl #[.agg #[.int .i64 (R : Int), .int .i64 (cn : Int), .slice A0_2 l0_2.length c0_2]] (by rfl) rfl rfl Own.mapd ?_
             with_reducible refine (spec_ggGroups.calls 0 _ _ _ _ l0_2 gs _ (Kd.C_below HC.out (below_step HB0.out HZ.out)) HCC.out GG.out).mono ?_
             rintro e w1 ⟨v, rfl, hR, hb⟩
             refine ⟨_, rfl, ?_⟩
             obtain ⟨Ag, cg, eg⟩ := Kd.R_slice hR
             subst eg
             have HG := Aside0.mk (Kd.R_lower hR HZ.out.size)
             replace HZ := Aside0.mk (below_step HZ.out hb)
             clear hb hR
             refine hK.out _ _ ⟨(blk_cell (blk_below BA.out HZ.out) 0).trans rfl, (blk_cell (blk_below BA.out HZ.out) 1).trans rfl, (blk_cell (blk_below BA.out HZ.out) 2).trans rfl⟩ (fun hHeld => ?_)
             clear hK K
             refine Own.nm_ (some 12) ?_
             exact norm_ (by simp only [putAll, Own.putL]) (hJ100 (Ag, cg, none, 0, undef, 0, 0) _ ⟨hHeld, HZ.out, HG.out⟩)
            ·skip
             refine box_step (by rfl) (N := 6) rfl (cs := #[.int .i64 0, .int .i64 0, .int .i64 0]) (t := 81) ?hr ?_
             case hr => first | (go_simp; done) | (go_simp; rfl)
             intro g6 hg w1 hbox hb
             have LX : Aside0 (wy.heap.size ≤ g6) := ⟨by rw [hg]; exact HZ.out.size⟩
             replace HZ := Aside0.mk (below_step HZ.out hb)
             have HX := Aside0.mk hbox
             clear hg hb hbox
             refine hK.out _ _ ⟨(blk_cell (blk_below BA.out HZ.out) 0).trans rfl, (blk_cell (blk_below BA.out HZ.out) 1).trans rfl, (blk_cell (blk_below BA.out HZ.out) 2).trans rfl⟩ (fun hHeld => ?_)
             clear hK K
             refine Own.nm_ (some 6) ?_
             exact norm_ (by simp only [putAll, Own.putL]) (hJ010 (none, 0, none, 0, undef, g6, 0) _ ⟨hHeld, HZ.out, HX.out, LX.out⟩)
            ·skip
             refine box_step (by rfl) (N := 7) rfl (cs := #[.int .i64 0, .int .i64 0, .slice none 0 0]) (t := 24) ?hr ?_
             case hr => first | (go_simp; done) | (go_simp; rfl)
             intro g7 hg w1 hbox hb
             have LY : Aside0 (wy.heap.size ≤ g7) := ⟨by rw [hg]; exact HZ.out.size⟩
             replace HZ := Aside0.mk (below_step HZ.out hb)
             have HY := Aside0.mk hbox
             clear hg hb hbox
             refine hK.out _ _ ⟨(blk_cell (blk_below BA.out HZ.out) 0).trans rfl, (blk_cell (blk_below BA.out HZ.out) 1).trans rfl, (blk_cell (blk_below BA.out HZ.out) 2).trans rfl⟩ (fun hHeld => ?_)
             clear hK K
             refine Own.nm_ (some 7) ?_
             exact norm_ (by simp only [putAll, Own.putL]) (hJ001 (none, 0, none, 0, undef, 0, g7) _ ⟨hHeld, HZ.out, HY.out, LY.out⟩)
           clear HZ hHeld
           rintro ⟨Ag, cg, Ao, co, vw, g6, g7⟩ wj ⟨hHeld, hz, hx, lx⟩
           have HZ := Aside0.mk hz
           have HX := Aside0.mk hx
           have LX := Aside0.mk lx
           clear hz hx lx
           refine norm_ (a' := ?_) ?_ ?_
           rotate_left
           ·simp only [putAll, Own.putL]
            rfl
           refine two_ (i := 2) (j := 10) (Ni := some 12) (Nj := some 7) #[true,true,true,true,false,false,false,false,false,true,false,false,false,false] #[true,true,false,true,false,false,false,false,false,true,true,false,false,false] rfl rfl rfl rfl (by kernel_rfl) (by decide) (by decide) (fun K hK => ?_) (fun K hK => ?_)
           ·skip
            refine goes_ Try.func93 (by kernel_rfl) rfl #[.agg #[.int .i64 (R : Int), .int .i64 (cn : Int), .slice A0_2 l0_2.length c0_2]] (by rfl) rfl rfl Own.mapd ?_
            with_reducible refine (spec_ggGroups.calls 0 _ _ _ _ l0_2 gs _ (Kd.C_below HC.out (below_step HB0.out HZ.out)) HCC.out GG.out).mono ?_
            rintro e w1 ⟨v, rfl, hR, hb⟩
            refine ⟨_, rfl, ?_⟩
            obtain ⟨Ag, cg, eg⟩ := Kd.R_slice hR
            subst eg
            have HG := Aside0.mk (Kd.R_lower hR HZ.out.size)
            replace HX := Aside0.mk (blk_below HX.out hb)
            replace HZ := Aside0.mk (below_step HZ.out hb)
            clear hb hR
            refine hK.out _ _ ⟨(blk_cell (blk_below BA.out HZ.out) 0).trans rfl, (blk_cell (blk_below BA.out HZ.out) 1).trans rfl, (blk_cell (blk_below BA.out HZ.out) 2).trans rfl⟩ (fun hHeld => ?_)
            clear hK K
            refine Own.nm_ (some 12) ?_
            exact norm_ (by simp only [putAll, Own.putL]) (hJ110 (Ag, cg, none, 0, undef, g6, 0) _ ⟨hHeld, HZ.out, HG.out, HX.out, LX.out⟩)
           ·skip
            refine box_step (by rfl) (N := 7) rfl (cs := #[.int .i64 0, .int .i64 0, .slice none 0 0]) (t := 24) ?hr ?_
            case hr => first | (go_simp; done) | (go_simp; rfl)
            intro g7 hg w1 hbox hb
            have LY : Aside0 (wy.heap.size ≤ g7) := ⟨by rw [hg]; exact HZ.out.size⟩
            replace HX := Aside0.mk (blk_below HX.out hb)
            replace HZ := Aside0.mk (below_step HZ.out hb)
            have HY := Aside0.mk hbox
            clear hg hb hbox
            refine hK.out _ _ ⟨(blk_cell (blk_below BA.out HZ.out) 0).trans rfl, (blk_cell (blk_below BA.out HZ.out) 1).trans rfl, (blk_cell (blk_below BA.out HZ.out) 2).trans rfl⟩ (fun hHeld => ?_)
            clear hK K
            refine Own.nm_ (some 7) ?_
            exact norm_ (by simp only [putAll, Own.putL]) (hJ011 (none, 0, none, 0, undef, g6, g7) _ ⟨hHeld, HZ.out, HX.out, LX.out, HY.out, LY.out⟩)
          clear HZ hHeld
          rintro ⟨Ag, cg, Ao, co, vw, g6, g7⟩ wj ⟨hHeld, hz, hy, ly⟩
          have HZ := Aside0.mk hz
          have HY := Aside0.mk hy
          have LY := Aside0.mk ly
          clear hz hy ly
          refine norm_ (a' := ?_) ?_ ?_
          rotate_left
          ·simp only [putAll, Own.putL]
           rfl
          refine two_ (i := 2) (j := 9) (Ni := some 12) (Nj := some 6) #[true,true,true,true,false,false,false,false,false,false,true,false,false,false] #[true,true,false,true,false,false,false,false,false,true,true,false,false,false] rfl rfl rfl rfl (by kernel_rfl) (by decide) (by decide) (fun K hK => ?_) (fun K hK => ?_)
          ·skip
           refine goes_ Try.func93 (by kernel_rfl) rfl #[.agg #[.int .i64 (R : Int), .int .i64 (cn : Int), .slice A0_2 l0_2.length c0_2]] (by rfl) rfl rfl Own.mapd ?_
           with_reducible refine (spec_ggGroups.calls 0 _ _ _ _ l0_2 gs _ (Kd.C_below HC.out (below_step HB0.out HZ.out)) HCC.out GG.out).mono ?_
           rintro e w1 ⟨v, rfl, hR, hb⟩
           refine ⟨_, rfl, ?_⟩
           obtain ⟨Ag, cg, eg⟩ := Kd.R_slice hR
           subst eg
           have HG := Aside0.mk (Kd.R_lower hR HZ.out.size)
           replace HY := Aside0.mk (blk_below HY.out hb)
           replace HZ := Aside0.mk (below_step HZ.out hb)
           clear hb hR
           refine hK.out _ _ ⟨(blk_cell (blk_below BA.out HZ.out) 0).trans rfl, (blk_cell (blk_below BA.out HZ.out) 1).trans rfl, (blk_cell (blk_below BA.out HZ.out) 2).trans rfl⟩ (fun hHeld => ?_)
           clear hK K
           refine Own.nm_ (some 12) ?_
           exact norm_ (by simp only [putAll, Own.putL]) (hJ101 (Ag, cg, none, 0, undef, 0, g7) _ ⟨hHeld, HZ.out, HG.out, HY.out, LY.out⟩)
          ·skip
           refine box_step (by rfl) (N := 6) rfl (cs := #[.int .i64 0, .int .i64 0, .int .i64 0]) (t := 81) ?hr ?_
           case hr => first | (go_simp; done) | (go_simp; rfl)
           intro g6 hg w1 hbox hb
           have LX : Aside0 (wy.heap.size ≤ g6) := ⟨by rw [hg]; exact HZ.out.size⟩
           replace HY := Aside0.mk (blk_below HY.out hb)
           replace HZ := Aside0.mk (below_step HZ.out hb)
           have HX := Aside0.mk hbox
           clear hg hb hbox
           refine hK.out _ _ ⟨(blk_cell (blk_below BA.out HZ.out) 0).trans rfl, (blk_cell (blk_below BA.out HZ.out) 1).trans rfl, (blk_cell (blk_below BA.out HZ.out) 2).trans rfl⟩ (fun hHeld => ?_)
           clear hK K
           refine Own.nm_ (some 6) ?_
           exact norm_ (by simp only [putAll, Own.putL]) (hJ011 (none, 0, none, 0, undef, g6, g7) _ ⟨hHeld, HZ.out, HX.out, LX.out, HY.out, LY.out⟩)
         clear HZ hHeld
         rintro ⟨Ag, cg, Ao, co, vw, g6, g7⟩ wj ⟨hHeld, hz, hg⟩
         have HZ := Aside0.mk hz
         have HG := Aside0.mk hg
         clear hz hg
         refine norm_ (a' := ?_) ?_ ?_
         rotate_left
         ·simp only [putAll, Own.putL]
          rfl
         refine three_ (i := 4) (j := 9) (k := 10) (Ni := some 14) (Nj := some 6) (Nk := some 7) #[true,true,true,true,true,false,false,false,false,false,false,false,false,false] #[true,true,true,true,false,false,false,false,false,true,false,false,false,false] #[true,true,true,true,false,false,false,false,false,false,true,false,false,false] rfl rfl rfl rfl rfl rfl (by kernel_rfl) (by decide) (by decide) (by decide) (fun K hK => ?_) (fun K hK => ?_) (fun K hK => ?_)
         ·skip
          refine goes_ Try.func92 (by kernel_rfl) rfl #[.agg #[.int .i64 (R : Int), .int .i64 (cn : Int), .slice A0_2 l0_2.length c0_2], .slice Ag gs.length cg, .int .i64 a1] (by rfl) rfl rfl Own.mapd ?_
          with_reducible refine (GO.out _ _ _ (Kd.C_below HC.out (below_step HB0.out HZ.out)) (Kd.R_reads' HG.out).2.2 (Kd.R_reads' HG.out).2.1).mono ?_
          rintro e w1 ⟨v, vw, rfl, hR, hb⟩
          replace hR : Kd.R k71 71 w1 _ (fun _ => True) v cs := hR
          refine ⟨_, rfl, ?_⟩
          obtain ⟨Ao, co, eo⟩ := Kd.R_slice hR
          subst eo
          have HO := Aside0.mk (Kd.R_lower hR HZ.out.size)
          replace HZ := Aside0.mk (below_step HZ.out hb)
          clear hb hR HG
          refine hK.out _ _ ⟨(blk_cell (blk_below BA.out HZ.out) 0).trans rfl, (blk_cell (blk_below BA.out HZ.out) 1).trans rfl, (blk_cell (blk_below BA.out HZ.out) 2).trans rfl⟩ (fun hHeld => ?_)
          clear hK K
          refine Own.nm_ (some 14) ?_
          refine Own.pu_ (i := 5) (N := some 9) #[true,true,true,true,true,true,false,false,false,false,false,false,false,false] ?_
          refine Own.pu_ (i := 6) (N := some 15) #[true,true,true,true,true,true,true,false,false,false,false,false,false,false] ?_
          refine Own.pu_ (i := 7) (N := some 16) #[true,true,true,true,true,true,true,true,false,false,false,false,false,false] ?_
          refine Own.pu_ (i := 8) (N := some 17) #[true,true,true,true,true,true,true,true,true,false,false,false,false,false] ?_
          exact norm_ (by simp only [putAll, Own.putL]) (hJ200 (Ag, cg, Ao, co, vw, 0, 0) _ ⟨hHeld, HZ.out, HO.out⟩)
         ·skip
          refine box_step (by rfl) (N := 6) rfl (cs := #[.int .i64 0, .int .i64 0, .int .i64 0]) (t := 81) ?hr ?_
          case hr => first | (go_simp; done) | (go_simp; rfl)
          intro g6 hg w1 hbox hb
          have LX : Aside0 (wy.heap.size ≤ g6) := ⟨by rw [hg]; exact HZ.out.size⟩
          replace HG := Aside0.mk (Kd.R_below HG.out hb)
          replace HZ := Aside0.mk (below_step HZ.out hb)
          have HX := Aside0.mk hbox
          clear hg hb hbox
          refine hK.out _ _ ⟨(blk_cell (blk_below BA.out HZ.out) 0).trans rfl, (blk_cell (blk_below BA.out HZ.out) 1).trans rfl, (blk_cell (blk_below BA.out HZ.out) 2).trans rfl⟩ (fun hHeld => ?_)
          clear hK K
          refine Own.nm_ (some 6) ?_
          exact norm_ (by simp only [putAll, Own.putL]) (hJ110 (Ag, cg, none, 0, undef, g6, 0) _ ⟨hHeld, HZ.out, HG.out, HX.out, LX.out⟩)
         ·skip
          refine box_step (by rfl) (N := 7) rfl (cs := #[.int .i64 0, .int .i64 0, .slice none 0 0]) (t := 24) ?hr ?_
          case hr => first | (go_simp; done) | (go_simp; rfl)
          intro g7 hg w1 hbox hb
          have LY : Aside0 (wy.heap.size ≤ g7) := ⟨by rw [hg]; exact HZ.out.size⟩
          replace HG := Aside0.mk (Kd.R_below HG.out hb)
          replace HZ := Aside0.mk (below_step HZ.out hb)
          have HY := Aside0.mk hbox
          clear hg hb hbox
          refine hK.out _ _ ⟨(blk_cell (blk_below BA.out HZ.out) 0).trans rfl, (blk_cell (blk_below BA.out HZ.out) 1).trans rfl, (blk_cell (blk_below BA.out HZ.out) 2).trans rfl⟩ (fun hHeld => ?_)
          clear hK K
          refine Own.nm_ (some 7) ?_
          exact norm_ (by simp only [putAll, Own.putL]) (hJ101 (Ag, cg, none, 0, undef, 0, g7) _ ⟨hHeld, HZ.out, HG.out, HY.out, LY.out⟩)
        clear HZ hHeld
        rintro ⟨Ag, cg, Ao, co, vw, g6, g7⟩ wj ⟨hHeld, hz, hx, lx, hy, ly⟩
        have HZ := Aside0.mk hz
        have HX := Aside0.mk hx
        have LX := Aside0.mk lx
        have HY := Aside0.mk hy
        have LY := Aside0.mk ly
        clear hz hx lx hy ly
        refine norm_ (a' := ?_) ?_ ?_
        rotate_left
        ·simp only [putAll, Own.putL]
         rfl
        refine one_ (i := 2) (N := some 12) #[true,true,true,true,false,false,false,false,false,true,true,false,false,false] rfl rfl (by kernel_rfl) (by decide) (fun K hK => ?_)
        refine goes_ Try.func93 (by kernel_rfl) rfl #[.agg #[.int .i64 (R : Int), .int .i64 (cn : Int), .slice A0_2 l0_2.length c0_2]] (by rfl) rfl rfl Own.mapd ?_
        with_reducible refine (spec_ggGroups.calls 0 _ _ _ _ l0_2 gs _ (Kd.C_below HC.out (below_step HB0.out HZ.out)) HCC.out GG.out).mono ?_
        rintro e w1 ⟨v, rfl, hR, hb⟩
        refine ⟨_, rfl, ?_⟩
        obtain ⟨Ag, cg, eg⟩ := Kd.R_slice hR
        subst eg
        have HG := Aside0.mk (Kd.R_lower hR HZ.out.size)
        replace HX := Aside0.mk (blk_below HX.out hb)
        replace HY := Aside0.mk (blk_below HY.out hb)
        replace HZ := Aside0.mk (below_step HZ.out hb)
        clear hb hR
        refine hK.out _ _ ⟨(blk_cell (blk_below BA.out HZ.out) 0).trans rfl, (blk_cell (blk_below BA.out HZ.out) 1).trans rfl, (blk_cell (blk_below BA.out HZ.out) 2).trans rfl⟩ (fun hHeld => ?_)
        clear hK K
        refine Own.nm_ (some 12) ?_
        exact norm_ (by simp only [putAll, Own.putL]) (hJ111 (Ag, cg, none, 0, undef, g6, g7) _ ⟨hHeld, HZ.out, HG.out, HX.out, LX.out, HY.out, LY.out⟩)
       clear HZ hHeld
       rintro ⟨Ag, cg, Ao, co, vw, g6, g7⟩ wj ⟨hHeld, hz, hg, hx, lx⟩
       have HZ := Aside0.mk hz
       have HG := Aside0.mk hg
       have HX := Aside0.mk hx
       have LX := Aside0.mk lx
       clear hz hg hx lx
       refine norm_ (a' := ?_) ?_ ?_
       rotate_left
       ·simp only [putAll, Own.putL]
        rfl
       refine two_ (i := 4) (j := 10) (Ni := some 14) (Nj := some 7) #[true,true,true,true,true,false,false,false,false,true,false,false,false,false] #[true,true,true,true,false,false,false,false,false,true,true,false,false,false] rfl rfl rfl rfl (by kernel_rfl) (by decide) (by decide) (fun K hK => ?_) (fun K hK => ?_)
       ·skip
        refine goes_ Try.func92 (by kernel_rfl) rfl #[.agg #[.int .i64 (R : Int), .int .i64 (cn : Int), .slice A0_2 l0_2.length c0_2], .slice Ag gs.length cg, .int .i64 a1] (by rfl) rfl rfl Own.mapd ?_
        with_reducible refine (GO.out _ _ _ (Kd.C_below HC.out (below_step HB0.out HZ.out)) (Kd.R_reads' HG.out).2.2 (Kd.R_reads' HG.out).2.1).mono ?_
        rintro e w1 ⟨v, vw, rfl, hR, hb⟩
        replace hR : Kd.R k71 71 w1 _ (fun _ => True) v cs := hR
        refine ⟨_, rfl, ?_⟩
        obtain ⟨Ao, co, eo⟩ := Kd.R_slice hR
        subst eo
        have HO := Aside0.mk (Kd.R_lower hR HZ.out.size)
        replace HX := Aside0.mk (blk_below HX.out hb)
        replace HZ := Aside0.mk (below_step HZ.out hb)
        clear hb hR HG
        refine hK.out _ _ ⟨(blk_cell (blk_below BA.out HZ.out) 0).trans rfl, (blk_cell (blk_below BA.out HZ.out) 1).trans rfl, (blk_cell (blk_below BA.out HZ.out) 2).trans rfl⟩ (fun hHeld => ?_)
        clear hK K
        refine Own.nm_ (some 14) ?_
        refine Own.pu_ (i := 5) (N := some 9) #[true,true,true,true,true,true,false,false,false,true,false,false,false,false] ?_
        refine Own.pu_ (i := 6) (N := some 15) #[true,true,true,true,true,true,true,false,false,true,false,false,false,false] ?_
        refine Own.pu_ (i := 7) (N := some 16) #[true,true,true,true,true,true,true,true,false,true,false,false,false,false] ?_
        refine Own.pu_ (i := 8) (N := some 17) #[true,true,true,true,true,true,true,true,true,true,false,false,false,false] ?_
        exact norm_ (by simp only [putAll, Own.putL]) (hJ210 (Ag, cg, Ao, co, vw, g6, 0) _ ⟨hHeld, HZ.out, HO.out, HX.out, LX.out⟩)
       ·skip
        refine box_step (by rfl) (N := 7) rfl (cs := #[.int .i64 0, .int .i64 0, .slice none 0 0]) (t := 24) ?hr ?_
        case hr => first | (go_simp; done) | (go_simp; rfl)
        intro g7 hg w1 hbox hb
        have LY : Aside0 (wy.heap.size ≤ g7) := ⟨by rw [hg]; exact HZ.out.size⟩
        replace HG := Aside0.mk (Kd.R_below HG.out hb)
        replace HX := Aside0.mk (blk_below HX.out hb)
        replace HZ := Aside0.mk (below_step HZ.out hb)
        have HY := Aside0.mk hbox
        clear hg hb hbox
        refine hK.out _ _ ⟨(blk_cell (blk_below BA.out HZ.out) 0).trans rfl, (blk_cell (blk_below BA.out HZ.out) 1).trans rfl, (blk_cell (blk_below BA.out HZ.out) 2).trans rfl⟩ (fun hHeld => ?_)
        clear hK K
        refine Own.nm_ (some 7) ?_
        exact norm_ (by simp only [putAll, Own.putL]) (hJ111 (Ag, cg, none, 0, undef, g6, g7) _ ⟨hHeld, HZ.out, HG.out, HX.out, LX.out, HY.out, LY.out⟩)
      clear HZ hHeld
      rintro ⟨Ag, cg, Ao, co, vw, g6, g7⟩ wj ⟨hHeld, hz, hg, hy, ly⟩
      have HZ := Aside0.mk hz
      have HG := Aside0.mk hg
      have HY := Aside0.mk hy
      have LY := Aside0.mk ly
      clear hz hg hy ly
      refine norm_ (a' := ?_) ?_ ?_
      rotate_left
      ·simp only [putAll, Own.putL]
       rfl
      refine two_ (i := 4) (j := 9) (Ni := some 14) (Nj := some 6) #[true,true,true,true,true,false,false,false,false,false,true,false,false,false] #[true,true,true,true,false,false,false,false,false,true,true,false,false,false] rfl rfl rfl rfl (by kernel_rfl) (by decide) (by decide) (fun K hK => ?_) (fun K hK => ?_)
      ·skip
       refine goes_ Try.func92 (by kernel_rfl) rfl #[.agg #[.int .i64 (R : Int), .int .i64 (cn : Int), .slice A0_2 l0_2.length c0_2], .slice Ag gs.length cg, .int .i64 a1] (by rfl) rfl rfl Own.mapd ?_
       with_reducible refine (GO.out _ _ _ (Kd.C_below HC.out (below_step HB0.out HZ.out)) (Kd.R_reads' HG.out).2.2 (Kd.R_reads' HG.out).2.1).mono ?_
       rintro e w1 ⟨v, vw, rfl, hR, hb⟩
       replace hR : Kd.R k71 71 w1 _ (fun _ => True) v cs := hR
       refine ⟨_, rfl, ?_⟩
       obtain ⟨Ao, co, eo⟩ := Kd.R_slice hR
       subst eo
       have HO := Aside0.mk (Kd.R_lower hR HZ.out.size)
       replace HY := Aside0.mk (blk_below HY.out hb)
       replace HZ := Aside0.mk (below_step HZ.out hb)
       clear hb hR HG
       refine hK.out _ _ ⟨(blk_cell (blk_below BA.out HZ.out) 0).trans rfl, (blk_cell (blk_below BA.out HZ.out) 1).trans rfl, (blk_cell (blk_below BA.out HZ.out) 2).trans rfl⟩ (fun hHeld => ?_)
       clear hK K
       refine Own.nm_ (some 14) ?_
       refine Own.pu_ (i := 5) (N := some 9) #[true,true,true,true,true,true,false,false,false,false,true,false,false,false] ?_
       refine Own.pu_ (i := 6) (N := some 15) #[true,true,true,true,true,true,true,false,false,false,true,false,false,false] ?_
       refine Own.pu_ (i := 7) (N := some 16) #[true,true,true,true,true,true,true,true,false,false,true,false,false,false] ?_
       refine Own.pu_ (i := 8) (N := some 17) #[true,true,true,true,true,true,true,true,true,false,true,false,false,false] ?_
       exact norm_ (by simp only [putAll, Own.putL]) (hJ201 (Ag, cg, Ao, co, vw, 0, g7) _ ⟨hHeld, HZ.out, HO.out, HY.out, LY.out⟩)
      ·skip
       refine box_step (by rfl) (N := 6) rfl (cs := #[.int .i64 0, .int .i64 0, .int .i64 0]) (t := 81) ?hr ?_
       case hr => first | (go_simp; done) | (go_simp; rfl)
       intro g6 hg w1 hbox hb
       have LX : Aside0 (wy.heap.size ≤ g6) := ⟨by rw [hg]; exact HZ.out.size⟩
       replace HG := Aside0.mk (Kd.R_below HG.out hb)
       replace HY := Aside0.mk (blk_below HY.out hb)
       replace HZ := Aside0.mk (below_step HZ.out hb)
       have HX := Aside0.mk hbox
       clear hg hb hbox
       refine hK.out _ _ ⟨(blk_cell (blk_below BA.out HZ.out) 0).trans rfl, (blk_cell (blk_below BA.out HZ.out) 1).trans rfl, (blk_cell (blk_below BA.out HZ.out) 2).trans rfl⟩ (fun hHeld => ?_)
       clear hK K
       refine Own.nm_ (some 6) ?_
       exact norm_ (by simp only [putAll, Own.putL]) (hJ111 (Ag, cg, none, 0, undef, g6, g7) _ ⟨hHeld, HZ.out, HG.out, HX.out, LX.out, HY.out, LY.out⟩)
     clear HZ hHeld
     rintro ⟨Ag, cg, Ao, co, vw, g6, g7⟩ wj ⟨hHeld, hz, ho⟩
     have HZ := Aside0.mk hz
     have HO := Aside0.mk ho
     clear hz ho
     refine norm_ (a' := ?_) ?_ ?_
     rotate_left
     ·simp only [putAll, Own.putL]
      rfl
     refine two_ (i := 9) (j := 10) (Ni := some 6) (Nj := some 7) #[true,true,true,true,true,true,true,true,true,true,false,false,false,false] #[true,true,true,true,true,true,true,true,true,false,true,false,false,false] rfl rfl rfl rfl (by kernel_rfl) (by decide) (by decide) (fun K hK => ?_) (fun K hK => ?_)
     ·skip
      refine box_step (by rfl) (N := 6) rfl (cs := #[.int .i64 0, .int .i64 0, .int .i64 0]) (t := 81) ?hr ?_
      case hr => first | (go_simp; done) | (go_simp; rfl)
      intro g6 hg w1 hbox hb
      have LX : Aside0 (wy.heap.size ≤ g6) := ⟨by rw [hg]; exact HZ.out.size⟩
      replace HO := Aside0.mk (Kd.R_below HO.out hb)
      replace HZ := Aside0.mk (below_step HZ.out hb)
      have HX := Aside0.mk hbox
      clear hg hb hbox
      refine hK.out _ _ ⟨(blk_cell (blk_below BA.out HZ.out) 0).trans rfl, (blk_cell (blk_below BA.out HZ.out) 1).trans rfl, (blk_cell (blk_below BA.out HZ.out) 2).trans rfl⟩ (fun hHeld => ?_)
      clear hK K
      refine Own.nm_ (some 6) ?_
      exact norm_ (by simp only [putAll, Own.putL]) (hJ210 (Ag, cg, Ao, co, vw, g6, 0) _ ⟨hHeld, HZ.out, HO.out, HX.out, LX.out⟩)
     ·skip
      refine box_step (by rfl) (N := 7) rfl (cs := #[.int .i64 0, .int .i64 0, .slice none 0 0]) (t := 24) ?hr ?_
      case hr => first | (go_simp; done) | (go_simp; rfl)
      intro g7 hg w1 hbox hb
      have LY : Aside0 (wy.heap.size ≤ g7) := ⟨by rw [hg]; exact HZ.out.size⟩
      replace HO := Aside0.mk (Kd.R_below HO.out hb)
      replace HZ := Aside0.mk (below_step HZ.out hb)
      have HY := Aside0.mk hbox
      clear hg hb hbox
      refine hK.out _ _ ⟨(blk_cell (blk_below BA.out HZ.out) 0).trans rfl, (blk_cell (blk_below BA.out HZ.out) 1).trans rfl, (blk_cell (blk_below BA.out HZ.out) 2).trans rfl⟩ (fun hHeld => ?_)
      clear hK K
      refine Own.nm_ (some 7) ?_
      exact norm_ (by simp only [putAll, Own.putL]) (hJ201 (Ag, cg, Ao, co, vw, 0, g7) _ ⟨hHeld, HZ.out, HO.out, HY.out, LY.out⟩)
    clear HZ hHeld
    rintro ⟨Ag, cg, Ao, co, vw, g6, g7⟩ wj ⟨hHeld, hz, hg, hx, lx, hy, ly⟩
    have HZ := Aside0.mk hz
    have HG := Aside0.mk hg
    have HX := Aside0.mk hx
    have LX := Aside0.mk lx
    have HY := Aside0.mk hy
    have LY := Aside0.mk ly
    clear hz hg hx lx hy ly
    refine norm_ (a' := ?_) ?_ ?_
    rotate_left
    ·simp only [putAll, Own.putL]
     rfl
    refine one_ (i := 4) (N := some 14) #[true,true,true,true,true,false,false,false,false,true,true,false,false,false] rfl rfl (by kernel_rfl) (by decide) (fun K hK => ?_)
    refine goes_ Try.func92 (by kernel_rfl) rfl #[.agg #[.int .i64 (R : Int), .int .i64 (cn : Int), .slice A0_2 l0_2.length c0_2], .slice Ag gs.length cg, .int .i64 a1] (by rfl) rfl rfl Own.mapd ?_
    with_reducible refine (GO.out _ _ _ (Kd.C_below HC.out (below_step HB0.out HZ.out)) (Kd.R_reads' HG.out).2.2 (Kd.R_reads' HG.out).2.1).mono ?_
    rintro e w1 ⟨v, vw, rfl, hR, hb⟩
    replace hR : Kd.R k71 71 w1 _ (fun _ => True) v cs := hR
    refine ⟨_, rfl, ?_⟩
    obtain ⟨Ao, co, eo⟩ := Kd.R_slice hR
    subst eo
    have HO := Aside0.mk (Kd.R_lower hR HZ.out.size)
    replace HX := Aside0.mk (blk_below HX.out hb)
    replace HY := Aside0.mk (blk_below HY.out hb)
    replace HZ := Aside0.mk (below_step HZ.out hb)
    clear hb hR HG
    refine hK.out _ _ ⟨(blk_cell (blk_below BA.out HZ.out) 0).trans rfl, (blk_cell (blk_below BA.out HZ.out) 1).trans rfl, (blk_cell (blk_below BA.out HZ.out) 2).trans rfl⟩ (fun hHeld => ?_)
    clear hK K
    refine Own.nm_ (some 14) ?_
    refine Own.pu_ (i := 5) (N := some 9) #[true,true,true,true,true,true,false,false,false,true,true,false,false,false] ?_
    refine Own.pu_ (i := 6) (N := some 15) #[true,true,true,true,true,true,true,false,false,true,true,false,false,false] ?_
    refine Own.pu_ (i := 7) (N := some 16) #[true,true,true,true,true,true,true,true,false,true,true,false,false,false] ?_
    refine Own.pu_ (i := 8) (N := some 17) #[true,true,true,true,true,true,true,true,true,true,true,false,false,false] ?_
    exact norm_ (by simp only [putAll, Own.putL]) (hJ211 (Ag, cg, Ao, co, vw, g6, g7) _ ⟨hHeld, HZ.out, HO.out, HX.out, LX.out, HY.out, LY.out⟩)
   clear HZ hHeld
   rintro ⟨Ag, cg, Ao, co, vw, g6, g7⟩ wj ⟨hHeld, hz, ho, hx, lx⟩
   have HZ := Aside0.mk hz
   have HO := Aside0.mk ho
   have HX := Aside0.mk hx
   have LX := Aside0.mk lx
   clear hz ho hx lx
   refine norm_ (a' := ?_) ?_ ?_
   rotate_left
   ·simp only [putAll, Own.putL]
    rfl
   refine one_ (i := 10) (N := some 7) #[true,true,true,true,true,true,true,true,true,true,true,false,false,false] rfl rfl (by kernel_rfl) (by decide) (fun K hK => ?_)
   refine box_step (by rfl) (N := 7) rfl (cs := #[.int .i64 0, .int .i64 0, .slice none 0 0]) (t := 24) ?hr ?_
   case hr => first | (go_simp; done) | (go_simp; rfl)
   intro g7 hg w1 hbox hb
   have LY : Aside0 (wy.heap.size ≤ g7) := ⟨by rw [hg]; exact HZ.out.size⟩
   replace HO := Aside0.mk (Kd.R_below HO.out hb)
   replace HX := Aside0.mk (blk_below HX.out hb)
   replace HZ := Aside0.mk (below_step HZ.out hb)
   have HY := Aside0.mk hbox
   clear hg hb hbox
   refine hK.out _ _ ⟨(blk_cell (blk_below BA.out HZ.out) 0).trans rfl, (blk_cell (blk_below BA.out HZ.out) 1).trans rfl, (blk_cell (blk_below BA.out HZ.out) 2).trans rfl⟩ (fun hHeld => ?_)
   clear hK K
   refine Own.nm_ (some 7) ?_
   exact norm_ (by simp only [putAll, Own.putL]) (hJ211 (Ag, cg, Ao, co, vw, g6, g7) _ ⟨hHeld, HZ.out, HO.out, HX.out, LX.out, HY.out, LY.out⟩)
  clear HZ hHeld
  rintro ⟨Ag, cg, Ao, co, vw, g6, g7⟩ wj ⟨hHeld, hz, ho, hy, ly⟩
  have HZ := Aside0.mk hz
  have HO := Aside0.mk ho
  have HY := Aside0.mk hy
  have LY := Aside0.mk ly
  clear hz ho hy ly
  refine norm_ (a' := ?_) ?_ ?_
  rotate_left
  ·simp only [putAll, Own.putL]
   rfl
  refine one_ (i := 9) (N := some 6) #[true,true,true,true,true,true,true,true,true,true,true,false,false,false] rfl rfl (by kernel_rfl) (by decide) (fun K hK => ?_)
  refine box_step (by rfl) (N := 6) rfl (cs := #[.int .i64 0, .int .i64 0, .int .i64 0]) (t := 81) ?hr ?_
  case hr => first | (go_simp; done) | (go_simp; rfl)
  intro g6 hg w1 hbox hb
  have LX : Aside0 (wy.heap.size ≤ g6) := ⟨by rw [hg]; exact HZ.out.size⟩
  replace HO := Aside0.mk (Kd.R_below HO.out hb)
  replace HY := Aside0.mk (blk_below HY.out hb)
  replace HZ := Aside0.mk (below_step HZ.out hb)
  have HX := Aside0.mk hbox
  clear hg hb hbox
  refine hK.out _ _ ⟨(blk_cell (blk_below BA.out HZ.out) 0).trans rfl, (blk_cell (blk_below BA.out HZ.out) 1).trans rfl, (blk_cell (blk_below BA.out HZ.out) 2).trans rfl⟩ (fun hHeld => ?_)
  clear hK K
  refine Own.nm_ (some 6) ?_
  exact norm_ (by simp only [putAll, Own.putL]) (hJ211 (Ag, cg, Ao, co, vw, g6, g7) _ ⟨hHeld, HZ.out, HO.out, HX.out, LX.out, HY.out, LY.out⟩)
 clear HZ hHeld
 rintro ⟨Ag, cg, Ao, co, vw, g6, g7⟩ wj ⟨hHeld, hz, ho, hx, lx, hy, ly⟩
 have HZ := Aside0.mk hz
 have HO := Aside0.mk ho
 have HX := Aside0.mk hx
 have LX := Aside0.mk lx
 have HY := Aside0.mk hy
 have LY := Aside0.mk ly
 clear hz ho hx lx hy ly
 refine norm_ (a' := ?_) ?_ ?_
 rotate_left
 ·simp only [putAll, Own.putL]
  rfl
 have NF : w.heap.size ≠ g6 := by have h1_ := blk_lt BA.out; have h2_ : wy.heap.size ≤ g6 := LX.out; omega
 have NB : w.heap.size ≠ g7 := by have h1_ := blk_lt BA.out; have h2_ : wy.heap.size ≤ g7 := LY.out; omega
 have N67 : g6 ≠ g7 := fun e_ => by have h1 := HX.out; rw [e_, HY.out] at h1; cases h1
 have s60 := (blk_cell HX.out 0).trans rfl
 have s61 := (blk_cell HX.out 1).trans rfl
 have s62 := (blk_cell HX.out 2).trans rfl
 have f60 := blk_frozen HX.out 0
 have f61 := blk_frozen HX.out 1
 have f62 := blk_frozen HX.out 2
 refine one_ (i := 11) (N := none) #[true,true,true,true,true,true,true,true,true,true,true,true,false,false] rfl rfl (by kernel_rfl) (by decide) (fun K hK => ?_)
 refine skip_ (w1 := (((wj.setCell ⟨g6, 0, none⟩ (.int .i64 q1)).setCell ⟨g6, 1, none⟩ (.int .i64 q2)).setCell ⟨g6, 2, none⟩ (.int .i64 q3))) (by rfl) rfl ?_ ?_
 ·first | (go_simp; done) | (go_simp; rfl)
 have X3 := Aside0.mk (blk_put (cs' := #[.int .i64 q1, .int .i64 q2, .int .i64 q3]) (blk_put (cs' := #[.int .i64 q1, .int .i64 q2, .int .i64 0]) (blk_put (cs' := #[.int .i64 q1, .int .i64 0, .int .i64 0]) HX.out 0 (.int .i64 q1) rfl) 1 (.int .i64 q2) rfl) 2 (.int .i64 q3) rfl)
 have Y3 := Aside0.mk (blk_far (blk_far (blk_far HY.out (p := ⟨g6, 0, none⟩) N67.symm (.int .i64 q1)) (p := ⟨g6, 1, none⟩) N67.symm (.int .i64 q2)) (p := ⟨g6, 2, none⟩) N67.symm (.int .i64 q3))
 have O3 := Aside0.mk (Kd.R_set (Kd.R_set (Kd.R_set HO.out HX.out (by decide) 0 (.int .i64 q1)) (blk_set HX.out 0 (.int .i64 q1)) (by decide) 1 (.int .i64 q2)) (blk_set (blk_set HX.out 0 (.int .i64 q1)) 1 (.int .i64 q2)) (by decide) 2 (.int .i64 q3))
 have Z3 := Aside0.mk (below_set (j := 2) (v := .int .i64 q3) (below_set (j := 1) (v := .int .i64 q2) (below_set (j := 0) (v := .int .i64 q1) HZ.out LX.out) LX.out) LX.out)
 clear s60 s61 s62 f60 f61 f62 HX HY HO HZ hHeld
 generalize (((wj.setCell ⟨g6, 0, none⟩ (.int .i64 q1)).setCell ⟨g6, 1, none⟩ (.int .i64 q2)).setCell ⟨g6, 2, none⟩ (.int .i64 q3)) = wk at X3 Y3 O3 Z3 hK ⊢
 refine hK.out _ _ ⟨(blk_cell (blk_below BA.out Z3.out) 0).trans rfl, (blk_cell (blk_below BA.out Z3.out) 1).trans rfl, (blk_cell (blk_below BA.out Z3.out) 2).trans rfl⟩ (fun hHeld => ?_)
 clear hK K
 have s60 := (blk_cell Y3.out 0).trans rfl
 have s61 := (blk_cell Y3.out 1).trans rfl
 have s62 := (blk_cell Y3.out 2).trans rfl
 have f60 := blk_frozen Y3.out 0
 have f61 := blk_frozen Y3.out 1
 have f62 := blk_frozen Y3.out 2
 refine one_ (i := 12) (N := none) #[true,true,true,true,true,true,true,true,true,true,true,true,true,false] rfl rfl (by kernel_rfl) (by decide) (fun K hK => ?_)
 refine skip_ (w1 := (((wk.setCell ⟨g7, 0, none⟩ (.int .i64 (R : Int))).setCell ⟨g7, 1, none⟩ (.int .i64 (cn : Int))).setCell ⟨g7, 2, none⟩ (.slice Ao cs.length co))) (by rfl) rfl ?_ ?_
 ·first | (go_simp; done) | (go_simp; rfl)
 have Y4 := Aside0.mk (blk_put (cs' := #[.int .i64 (R : Int), .int .i64 (cn : Int), .slice Ao cs.length co]) (blk_put (cs' := #[.int .i64 (R : Int), .int .i64 (cn : Int), .slice none 0 0]) (blk_put (cs' := #[.int .i64 (R : Int), .int .i64 0, .slice none 0 0]) Y3.out 0 (.int .i64 (R : Int)) rfl) 1 (.int .i64 (cn : Int)) rfl) 2 (.slice Ao cs.length co) rfl)
 have X4 := Aside0.mk (blk_far (blk_far (blk_far X3.out (p := ⟨g7, 0, none⟩) N67 (.int .i64 (R : Int))) (p := ⟨g7, 1, none⟩) N67 (.int .i64 (cn : Int))) (p := ⟨g7, 2, none⟩) N67 (.slice Ao cs.length co))
 have O4 := Aside0.mk (Kd.R_set (Kd.R_set (Kd.R_set O3.out Y3.out (by decide) 0 (.int .i64 (R : Int))) (blk_set Y3.out 0 (.int .i64 (R : Int))) (by decide) 1 (.int .i64 (cn : Int))) (blk_set (blk_set Y3.out 0 (.int .i64 (R : Int))) 1 (.int .i64 (cn : Int))) (by decide) 2 (.slice Ao cs.length co))
 have Z4 := Aside0.mk (below_set (j := 2) (v := .slice Ao cs.length co) (below_set (j := 1) (v := .int .i64 (cn : Int)) (below_set (j := 0) (v := .int .i64 (R : Int)) Z3.out LY.out) LY.out) LY.out)
 clear s60 s61 s62 f60 f61 f62 X3 Y3 O3 Z3 hHeld
 generalize (((wk.setCell ⟨g7, 0, none⟩ (.int .i64 (R : Int))).setCell ⟨g7, 1, none⟩ (.int .i64 (cn : Int))).setCell ⟨g7, 2, none⟩ (.slice Ao cs.length co)) = wl at X4 Y4 O4 Z4 hK ⊢
 refine hK.out _ _ ⟨(blk_cell (blk_below BA.out Z4.out) 0).trans rfl, (blk_cell (blk_below BA.out Z4.out) 1).trans rfl, (blk_cell (blk_below BA.out Z4.out) 2).trans rfl⟩ (fun hHeld => ?_)
 clear hK K
 refine Own.pu_ (i := 13) (N := some 8) #[true,true,true,true,true,true,true,true,true,true,true,true,true,true] ?_
 refine done_ (by kernel_rfl) ?_
 clear hHeld
 go_wp2
 have F4 := Aside0.mk (blk_below BF.out Z4.out)
 have G4 := Aside0.mk (blk_below BB.out Z4.out)
 refine start_ (n := 4) (S := fun w' => w'.cell? ⟨g6, 0, none⟩ = some (.int .i64 q1) ∧ w'.cell? ⟨g6, 1, none⟩ = some (.int .i64 q2) ∧ w'.cell? ⟨g6, 2, none⟩ = some (.int .i64 q3) ∧ w'.cell? ⟨g7, 0, none⟩ = some (.int .i64 (R : Int)) ∧ w'.cell? ⟨g7, 1, none⟩ = some (.int .i64 (cn : Int)) ∧ w'.cell? ⟨g7, 2, none⟩ = some (.slice Ao cs.length co)) (ds := [3]) #[false,false,false,false] (by kernel_rfl) rfl rfl ⟨(blk_cell X4.out 0).trans rfl, (blk_cell X4.out 1).trans rfl, (blk_cell X4.out 2).trans rfl, (blk_cell Y4.out 0).trans rfl, (blk_cell Y4.out 1).trans rfl, (blk_cell Y4.out 2).trans rfl⟩ (fun hHeld => ?_)
 refine Own.anew_ (wN := wl) Own.bel hHeld (fun wm hzb hHeld => ?_)
 replace F4 := Aside0.mk (blk_below F4.out hzb)
 replace G4 := Aside0.mk (blk_below G4.out hzb)
 replace O4 := Aside0.mk (Kd.R_below O4.out hzb)
 replace Z4 := Aside0.mk (below_step Z4.out hzb)
 replace X4 := Aside0.mk (blk_below X4.out hzb)
 replace Y4 := Aside0.mk (blk_below Y4.out hzb)
 clear hzb
 refine Own.tk_ (i := 0) (N := some 18) #[true,false,false,false] hHeld ?_
 refine Own.tk_ (i := 1) (N := some 19) #[true,true,false,false] hHeld ?_
 have s60 := (blk_cell F4.out 0).trans rfl
 have s61 := (blk_cell F4.out 1).trans rfl
 have s62 := (blk_cell F4.out 2).trans rfl
 have f60 := blk_frozen F4.out 0
 have f61 := blk_frozen F4.out 1
 have f62 := blk_frozen F4.out 2
 have s70 := (blk_cell G4.out 0).trans rfl
 have s71 := (blk_cell G4.out 1).trans rfl
 have s72 := (blk_cell G4.out 2).trans rfl
 have f70 := blk_frozen G4.out 0
 have f71 := blk_frozen G4.out 1
 have f72 := blk_frozen G4.out 2
 have NF6 : g6 ≠ w.heap.size + 1 := by have h1_ := blk_lt BF.out; have h2_ : wy.heap.size ≤ g6 := LX.out; omega
 have NF7 : g7 ≠ w.heap.size + 1 := by have h1_ := blk_lt BF.out; have h2_ : wy.heap.size ≤ g7 := LY.out; omega
 refine one_ (i := 2) (N := none) #[true,true,true,false] rfl rfl (by kernel_rfl) (by decide) (fun K hK => ?_)
 refine skip_ (w1 := (((wm.setCell ⟨w.heap.size + 1, 0, none⟩ (.int .i64 q1)).setCell ⟨w.heap.size + 1, 1, none⟩ (.int .i64 q2)).setCell ⟨w.heap.size + 1, 2, none⟩ (.int .i64 q3))) (by rfl) rfl ?_ ?_
 ·first | (go_simp; done) | (go_simp; rfl)
 have X5 := blk_far (blk_far (blk_far X4.out (p := ⟨w.heap.size + 1, 0, none⟩) NF6 (.int .i64 q1)) (p := ⟨w.heap.size + 1, 1, none⟩) NF6 (.int .i64 q2)) (p := ⟨w.heap.size + 1, 2, none⟩) NF6 (.int .i64 q3)
 have Y5 := blk_far (blk_far (blk_far Y4.out (p := ⟨w.heap.size + 1, 0, none⟩) NF7 (.int .i64 q1)) (p := ⟨w.heap.size + 1, 1, none⟩) NF7 (.int .i64 q2)) (p := ⟨w.heap.size + 1, 2, none⟩) NF7 (.int .i64 q3)
 refine hK.out _ _ ⟨(blk_cell X5 0).trans rfl, (blk_cell X5 1).trans rfl, (blk_cell X5 2).trans rfl, (blk_cell Y5 0).trans rfl, (blk_cell Y5 1).trans rfl, (blk_cell Y5 2).trans rfl⟩ (fun hHeld => ?_)
 clear hK K X5 Y5 X4 Y4 NF6 NF7
 have F5 := Aside0.mk (blk_put (cs' := #[.int .i64 q1, .int .i64 q2, .int .i64 q3]) (blk_put (cs' := #[.int .i64 q1, .int .i64 q2, .int .i64 0]) (blk_put (cs' := #[.int .i64 q1, .int .i64 0, .int .i64 0]) F4.out 0 (.int .i64 q1) rfl) 1 (.int .i64 q2) rfl) 2 (.int .i64 q3) rfl)
 have G5 := Aside0.mk (blk_far (blk_far (blk_far G4.out (p := ⟨w.heap.size + 1, 0, none⟩) (by simp) (.int .i64 q1)) (p := ⟨w.heap.size + 1, 1, none⟩) (by simp) (.int .i64 q2)) (p := ⟨w.heap.size + 1, 2, none⟩) (by simp) (.int .i64 q3))
 have O5 := Aside0.mk (Kd.R_set (Kd.R_set (Kd.R_set O4.out F4.out (by decide) 0 (.int .i64 q1)) (blk_set F4.out 0 (.int .i64 q1)) (by decide) 1 (.int .i64 q2)) (blk_set (blk_set F4.out 0 (.int .i64 q1)) 1 (.int .i64 q2)) (by decide) 2 (.int .i64 q3))
 have Z5 := Aside0.mk (below_set (j := 2) (v := .int .i64 q3) (below_set (j := 1) (v := .int .i64 q2) (below_set (j := 0) (v := .int .i64 q1) (below_step HB0.out Z4.out) (g := w.heap.size + 1) (Nat.le_add_right _ 1)) (Nat.le_add_right _ 1)) (Nat.le_add_right _ 1))
 clear s60 s61 s62 f60 f61 f62 s70 s71 s72 f70 f71 f72 F4 G4 O4 Z4
 generalize (((wm.setCell ⟨w.heap.size + 1, 0, none⟩ (.int .i64 q1)).setCell ⟨w.heap.size + 1, 1, none⟩ (.int .i64 q2)).setCell ⟨w.heap.size + 1, 2, none⟩ (.int .i64 q3)) = wp at F5 G5 O5 Z5 ⊢
 have s70 := (blk_cell G5.out 0).trans rfl
 have s71 := (blk_cell G5.out 1).trans rfl
 have s72 := (blk_cell G5.out 2).trans rfl
 have f70 := blk_frozen G5.out 0
 have f71 := blk_frozen G5.out 1
 have f72 := blk_frozen G5.out 2
 refine last_ (i := 3) (N := none) #[true,true,true,true] rfl rfl (by kernel_rfl) (by decide) (fun K hK => ?_)
 refine skip_ (w1 := (((wp.setCell ⟨w.heap.size + 2, 0, none⟩ (.int .i64 (R : Int))).setCell ⟨w.heap.size + 2, 1, none⟩ (.int .i64 (cn : Int))).setCell ⟨w.heap.size + 2, 2, none⟩ (.slice Ao cs.length co))) (by rfl) rfl ?_ ?_
 ·first | (go_simp; done) | (go_simp; rfl)
 refine hK.out _ _ ?_
 clear hK K
 have G6 := blk_put (cs' := #[.int .i64 (R : Int), .int .i64 (cn : Int), .slice Ao cs.length co]) (blk_put (cs' := #[.int .i64 (R : Int), .int .i64 (cn : Int), .slice none 0 0]) (blk_put (cs' := #[.int .i64 (R : Int), .int .i64 0, .slice none 0 0]) G5.out 0 (.int .i64 (R : Int)) rfl) 1 (.int .i64 (cn : Int)) rfl) 2 (.slice Ao cs.length co) rfl
 have F6 := blk_far (blk_far (blk_far F5.out (p := ⟨w.heap.size + 2, 0, none⟩) (by simp) (.int .i64 (R : Int))) (p := ⟨w.heap.size + 2, 1, none⟩) (by simp) (.int .i64 (cn : Int))) (p := ⟨w.heap.size + 2, 2, none⟩) (by simp) (.slice Ao cs.length co)
 have O6 := Aside0.mk (Kd.R_set (Kd.R_set (Kd.R_set O5.out G5.out (by decide) 0 (.int .i64 (R : Int))) (blk_set G5.out 0 (.int .i64 (R : Int))) (by decide) 1 (.int .i64 (cn : Int))) (blk_set (blk_set G5.out 0 (.int .i64 (R : Int))) 1 (.int .i64 (cn : Int))) (by decide) 2 (.slice Ao cs.length co))
 have Z6 := Aside0.mk (below_set (j := 2) (v := .slice Ao cs.length co) (below_set (j := 1) (v := .int .i64 (cn : Int)) (below_set (j := 0) (v := .int .i64 (R : Int)) Z5.out (g := w.heap.size + 2) (Nat.le_add_right _ 2)) (Nat.le_add_right _ 2)) (Nat.le_add_right _ 2))
 clear s70 s71 s72 f70 f71 f72 F5 G5 O5 Z5
 generalize (((wp.setCell ⟨w.heap.size + 2, 0, none⟩ (.int .i64 (R : Int))).setCell ⟨w.heap.size + 2, 1, none⟩ (.int .i64 (cn : Int))).setCell ⟨w.heap.size + 2, 2, none⟩ (.slice Ao cs.length co)) = wq at F6 G6 O6 Z6 ⊢
 refine done_ (by kernel_rfl) ?_
 clear hHeld
 have e0 := (blk_cell F6 0).trans rfl
 have e1 := (blk_cell F6 1).trans rfl
 have e2 := (blk_cell F6 2).trans rfl
 have e3 := (blk_cell G6 0).trans rfl
 have e4 := (blk_cell G6 1).trans rfl
 have e5 := (blk_cell G6 2).trans rfl
 (try go_wp2)
 exact bodyPost_ret (v := .tuple #[.agg #[.int .i64 q1, .int .i64 q2, .int .i64 q3], .agg #[.int .i64 (R : Int), .int .i64 (cn : Int), .slice Ao cs.length co]]) (by simp [results, Try.results72, go_sem, e0, e1, e2, e3, e4, e5]) rfl ⟨_, rfl, Kd.R_lower O6.out HB0.out.size, Z6.out⟩
end Go.Proofs.Ytcilbmbgdcepgaa.P
