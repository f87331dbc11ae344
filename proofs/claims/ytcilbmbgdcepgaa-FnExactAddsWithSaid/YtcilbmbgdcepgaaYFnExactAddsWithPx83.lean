/- The walk of impl.turnGroup (printed by gen_go.py). -/
import Derived.Test.YtcilbmbgdcepgaaYFnExactAddsWithVPass
import Derived.Test.YtcilbmbgdcepgaaOwnW
namespace Go.Proofs.Ytcilbmbgdcepgaa.P
open Go.RowKit YtcilbmbgdcepgaaW.PrintWords YtcilbmbgdcepgaaW.PrintLast YtcilbmbgdcepgaaW.PrintMore Own A
set_option linter.unusedVariables false
set_option linter.unusedSimpArgs false
/-! ### impl_turnGroup: function 96 -/
def PassOk_impl_turnGroup (l : List S71) (gs : List Int) (i : Int) : Prop := (l.length ≤ 1000 ∧ ∀ x ∈ l, CellOk x.f0 x.f1) ∧ gs.length = l.length ∧ 0 ≤ i ∧ i < (l.length : Int)
instance (l : List S71) (gs : List Int) (i : Int) : Decidable (PassOk_impl_turnGroup l gs i) := by unfold PassOk_impl_turnGroup CellOk; infer_instance
def impl_turnGroup.f (k : Nat) (a0_0 : Int) (a0_1 : Int) (l0_2 : List (S71)) (l1 : List Int) (a2 : Int) : Option ((List (S71))) := if PassOk_impl_turnGroup l0_2 l1 a2 then some (turnAll l1 (rd l1 a2) 0 l0_2) else none
theorem impl_turnGroup.mono : ∀ a0 a1 a2 a3 a4 k, LeO (impl_turnGroup.f k a0 a1 a2 a3 a4) (impl_turnGroup.f (k + 1) a0 a1 a2 a3 a4) := fun _ _ _ _ _ _ _ h => h
set_option maxHeartbeats 8000000 in
set_option maxRecDepth 100000 in
theorem impl_turnGroup.calls (k : Nat) (a0_0 : Int) (a0_1 : Int) (P0_2_ : Nat → Prop) (u9000_ : Value) (l0_2 : List (S71)) (A1 : Option Addr) (c1 : Nat) (l1 : List Int) (a2 : Int) (r : List (S71)) (w0 w : World) (hB : Below w0.heap.size w0 w) (ho0_2 : Kd.R k71 71 w w0.heap.size P0_2_ u9000_ l0_2) (hr1 : ∀ W_, Kept w W_ (fun k_ => P0_2_ k_) → Kd.C (Kd.int .i64) W_ A1 l1.length l1) (hc1 : l1.length ≤ c1) (h : impl_turnGroup.f k a0_0 a0_1 l0_2 l1 a2 = some r) :
  Calls Try.prog 96 #[.agg #[.int .i64 a0_0, .int .i64 a0_1, u9000_], .slice A1 l1.length c1, .int .i64 a2] w fun e w' => e = .returned (.tuple #[]) ∧ Kd.R k71 71 w' w0.heap.size (fun k_ => (P0_2_ k_ ∨ w.heap.size ≤ k_)) u9000_ r ∧ Below w0.heap.size w0 w' ∧ Kept w w' (fun k_ => P0_2_ k_) := by
 have hu24 := Try.underlying24
 have hu71 := Try.underlying71
 unfold impl_turnGroup.f at h
 by_cases hk : PassOk_impl_turnGroup l0_2 l1 a2
 case neg => rw [if_neg hk] at h; simp at h
 rw [if_pos hk] at h
 simp only [Option.some.injEq] at h
 subst h
 obtain ⟨⟨hn, hok⟩, hgl, h0, h1⟩ := hk
 obtain ⟨a, rfl⟩ : ∃ m : Nat, a2 = (m : Int) := ⟨a2.toNat, by omega⟩
 have ha : a < l0_2.length := by omega
 obtain ⟨g, cap, eu, _, hgs, _⟩ := Kd.R_form ho0_2 (by omega)
 subst eu
 obtain ⟨n, hnn⟩ : ∃ n, n = l0_2.length := ⟨_, rfl⟩
 rw [← hnn] at ho0_2 hn ha hgl ⊢
 have HGL := Aside0.mk hgl
 have HG := Aside0.mk hr1
 have HOK := Aside0.mk hok
 have HS0 : Aside0 (PaS w0 w (w.alloc (.cells #[.int .i64 a0_0, .int .i64 a0_1, .slice (some ⟨g, 0, none⟩) n cap] 24)) P0_2_ g n cap #[.int .i64 a0_0, .int .i64 a0_1, .slice (some ⟨g, 0, none⟩) n cap] l0_2) := ⟨⟨blk_new w _, Kd.R_below ho0_2 (below_alloc (Below.refl _ _) _), below_alloc hB _, (Kept.refl w _).alloc _, hgs, hnn.symm⟩⟩
 clear ho0_2 hr1 hok hB hgl h0 h1 hgs hnn
 obtain ⟨Q, hQ⟩ : ∃ Q, turnAll l1 (rd l1 (a : Int)) 0 l0_2 = Q := ⟨_, rfl⟩
 rw [hQ]
 have HQ0 : Aside0 (l0_2.take 0 ++ turnAll l1 (rd l1 (a : Int)) 0 (l0_2.drop 0) = Q) := ⟨by rw [List.take_zero, List.nil_append, List.drop_zero]; exact hQ⟩
 clear hQ
 go_enter Try.func96, Try.ntmps96
 have z2 : (w.alloc (.cells #[.int .i64 a0_0, .int .i64 a0_1, .slice (some ⟨g, 0, none⟩) n cap] 24)).cell? ⟨w.heap.size, 2, none⟩ = some (.slice (some ⟨g, 0, none⟩) n cap) := (blk_cell HS0.out.bA 2).trans rfl
 go_wp2
 generalize w.alloc (.cells #[.int .i64 a0_0, .int .i64 a0_1, .slice (some ⟨g, 0, none⟩) n cap] 24) = w1 at HS0 ⊢
 clear z2
 go_loopw [10] (fun v10 wr => ∃ (i : Nat) (cur : List S71), v10 = .int .i64 i ∧ i ≤ n ∧ Aside0 (cur.take i ++ turnAll l1 (rd l1 (a : Int)) i (cur.drop i) = Q) ∧ Aside0 (∀ x ∈ cur, CellOk x.f0 x.f1) ∧ Aside0 (PaS w0 w wr P0_2_ g n cap #[.int .i64 a0_0, .int .i64 a0_1, .slice (some ⟨g, 0, none⟩) n cap] cur)) (fun i _ => n - (intOf i).toNat)
 case atStart => exact ⟨0, l0_2, rfl, Nat.zero_le _, HQ0, HOK, HS0⟩
 case round =>
  clear HQ0 HOK HS0
  obtain ⟨i, cur, rfl, hi, HQ, HOK, HS⟩ := hrel
  by_cases hlt : i < n
  ·have hle := HS.out.le
   obtain ⟨hst, hsf⟩ := turnAll_step (i := i) (by omega) HQ.out
   have HST := Aside0.mk hst
   have HSF := Aside0.mk hsf
   obtain ⟨x, hx⟩ : ∃ x_, x_ = cur.getD i ⟨0, 0⟩ := ⟨_, rfl⟩
   obtain ⟨c0, c1_, fz0, fz1⟩ := cellGet HS.out.ro i hlt
   have HX : Aside0 (CellOk x.f0 x.f1) := ⟨by rw [hx]; exact getD_ok HOK.out i⟩
   rw [← hx] at c0 c1_ HST HSF
   have HXX := Aside0.mk hx
   have hC := HG.out wr HS.out.kp
   obtain ⟨ad, e1, g1⟩ := Kd.at_int hC (i : Int) (by omega) (by rw [HGL.out]; omega)
   obtain ⟨ad2, e2, g2⟩ := Kd.at_int hC (a : Int) (by omega) (by rw [HGL.out]; omega)
   subst e1
   cases e2
   rw [Int.toNat_natCast] at g1 g2
   have z2 : wr.cell? ⟨w.heap.size, 2, none⟩ = some (.slice (some ⟨g, 0, none⟩) n cap) := (blk_cell HS.out.bA 2).trans rfl
   have d0 : i < l1.length := by rw [HGL.out]; exact hlt
   have d1 : a < l1.length := by rw [HGL.out]; exact ha
   clear hle hst hsf hx hC HQ c1_ fz0 fz1
   go_wp2
   by_cases h6 : x.f0 = 6
   ·have b6 : (x.f0 == 6) = true := beq_iff_eq.2 h6
    refine start_ (n := 18) (S := fun w' => w'.cell? ⟨w.heap.size, 2, none⟩ = some (.slice (some ⟨g, 0, none⟩) n cap) ∧ w'.cell? ⟨g, i * 2, none⟩ = some (.int .i64 x.f0) ∧ w'.cell? (ad.add i) = some (.int .i64 (rd l1 (i : Int))) ∧ w'.cell? (ad.add a) = some (.int .i64 (rd l1 (a : Int)))) (ds := []) #[false,false,false,false,false,false,false,false,false,false,false,false,false,false,false,false,false,false] (by kernel_rfl) rfl rfl ⟨z2, c0, g1, g2⟩ (fun hHeld => ?_)
    refine Own.anew_ (wN := wr) Own.bel hHeld (fun wy hzb hHeld => ?_)
    replace HS := Aside0.mk (HS.out.below hzb)
    clear hzb z2 c0 g1 g2
    refine Own.pu_ (i := 0) (N := some 13) #[true,false,false,false,false,false,false,false,false,false,false,false,false,false,false,false,false,false] ?_
    refine Own.tk_ (i := 1) (N := some 14) #[true,true,false,false,false,false,false,false,false,false,false,false,false,false,false,false,false,false] hHeld ?_
    refine Own.pu_ (i := 2) (N := some 15) #[true,true,true,false,false,false,false,false,false,false,false,false,false,false,false,false,false,false] ?_
    refine Own.pu_ (i := 3) (N := some 16) #[true,true,true,true,false,false,false,false,false,false,false,false,false,false,false,false,false,false] ?_
    refine Own.pu_ (i := 4) (N := some 17) #[true,true,true,true,true,false,false,false,false,false,false,false,false,false,false,false,false,false] ?_
    refine Own.tk_ (i := 5) (N := some 18) #[true,true,true,true,true,true,false,false,false,false,false,false,false,false,false,false,false,false] hHeld ?_
    refine Own.pu_ (i := 6) (N := some 19) #[true,true,true,true,true,true,true,false,false,false,false,false,false,false,false,false,false,false] ?_
    refine Own.pu_ (i := 7) (N := some 20) #[true,true,true,true,true,true,true,true,false,false,false,false,false,false,false,false,false,false] ?_
    refine Own.pu_ (i := 8) (N := some 21) #[true,true,true,true,true,true,true,true,true,false,false,false,false,false,false,false,false,false] ?_
    refine Own.pu_ (i := 9) (N := some 22) #[true,true,true,true,true,true,true,true,true,true,false,false,false,false,false,false,false,false] ?_
    refine Own.pu_ (i := 10) (N := some 23) #[true,true,true,true,true,true,true,true,true,true,true,false,false,false,false,false,false,false] ?_
    refine Own.tk_ (i := 11) (N := some 24) #[true,true,true,true,true,true,true,true,true,true,true,true,false,false,false,false,false,false] hHeld ?_
    refine Own.pu_ (i := 12) (N := some 25) #[true,true,true,true,true,true,true,true,true,true,true,true,true,false,false,false,false,false] ?_
    refine Own.pu_ (i := 13) (N := some 26) #[true,true,true,true,true,true,true,true,true,true,true,true,true,true,false,false,false,false] ?_
    refine Own.pu_ (i := 14) (N := some 27) #[true,true,true,true,true,true,true,true,true,true,true,true,true,true,true,false,false,false] ?_
    refine Own.tk_ (i := 15) (N := some 28) #[true,true,true,true,true,true,true,true,true,true,true,true,true,true,true,true,false,false] hHeld ?_
    refine Own.pu_ (i := 16) (N := some 29) #[true,true,true,true,true,true,true,true,true,true,true,true,true,true,true,true,true,false] ?_
    refine Own.pu_ (i := 17) (N := some 30) #[true,true,true,true,true,true,true,true,true,true,true,true,true,true,true,true,true,true] ?_
    refine done_ (by kernel_rfl) ?_
    clear hHeld
    by_cases hg6 : rd l1 (i : Int) = rd l1 (a : Int)
    ·have bg : (rd l1 (i : Int) == rd l1 (a : Int)) = true := beq_iff_eq.2 hg6
     have HQ2 := Aside0.mk (HST.out ⟨h6, hg6⟩)
     have HSX := HS.out.put1 i hlt (1 - x.f1)
     rw [← HXX.out] at HSX
     have HS2 := Aside0.mk HSX
     have HO2 : Aside0 (∀ y ∈ cur.set i (turnC x), CellOk y.f0 y.f1) := ⟨set_ok HOK.out i (cellOk_turn HX.out (.inr h6))⟩
     have ew := wrap_turn HX.out
     clear HST HSF HSX
     obtain ⟨c0, c1_, fz0, fz1⟩ := cellGet HS.out.ro i hlt
     rw [← HXX.out] at c0 c1_
     have z2 : wy.cell? ⟨w.heap.size, 2, none⟩ = some (.slice (some ⟨g, 0, none⟩) n cap) := (blk_cell HS.out.bA 2).trans rfl
     clear c0 fz0
     go_wp2
     refine start_ (n := 13) (S := fun w' => w'.cell? ⟨w.heap.size, 2, none⟩ = some (.slice (some ⟨g, 0, none⟩) n cap) ∧ w'.cell? ⟨g, i * 2 + 1, none⟩ = some (.int .i64 x.f1)) (ds := [12]) #[false,false,false,false,false,false,false,false,false,false,false,false,false] (by kernel_rfl) rfl rfl ⟨z2, c1_⟩ (fun hHeld => ?_)
     refine Own.anew_ (wN := wy) Own.bel hHeld (fun wz hzb hHeld => ?_)
     replace HS := Aside0.mk (HS.out.below hzb)
     clear hzb z2 c1_ fz1 HS2
     refine Own.pu_ (i := 0) (N := some 31) #[true,false,false,false,false,false,false,false,false,false,false,false,false] ?_
     refine Own.tk_ (i := 1) (N := some 32) #[true,true,false,false,false,false,false,false,false,false,false,false,false] hHeld ?_
     refine Own.pu_ (i := 2) (N := some 33) #[true,true,true,false,false,false,false,false,false,false,false,false,false] ?_
     refine Own.pu_ (i := 3) (N := some 34) #[true,true,true,true,false,false,false,false,false,false,false,false,false] ?_
     refine Own.tk_ (i := 4) (N := some 35) #[true,true,true,true,true,false,false,false,false,false,false,false,false] hHeld ?_
     refine Own.pu_ (i := 5) (N := some 36) #[true,true,true,true,true,true,false,false,false,false,false,false,false] ?_
     refine Own.pu_ (i := 6) (N := some 37) #[true,true,true,true,true,true,true,false,false,false,false,false,false] ?_
     refine Own.pu_ (i := 7) (N := some 38) #[true,true,true,true,true,true,true,true,false,false,false,false,false] ?_
     refine Own.tk_ (i := 8) (N := some 39) #[true,true,true,true,true,true,true,true,true,false,false,false,false] hHeld ?_
     refine Own.pu_ (i := 9) (N := some 40) #[true,true,true,true,true,true,true,true,true,true,false,false,false] ?_
     refine Own.pu_ (i := 10) (N := some 41) #[true,true,true,true,true,true,true,true,true,true,true,false,false] ?_
     refine Own.pu_ (i := 11) (N := some 42) #[true,true,true,true,true,true,true,true,true,true,true,true,false] ?_
     obtain ⟨c0, c1_, fz0, fz1⟩ := cellGet HS.out.ro i hlt
     have HSX := HS.out.put1 i hlt (1 - x.f1)
     rw [← HXX.out] at HSX
     have HS2 := Aside0.mk HSX
     refine last_ (i := 12) (N := none) #[true,true,true,true,true,true,true,true,true,true,true,true,true] rfl rfl (by kernel_rfl) (by decide) (fun K hK => ?_)
     refine skip_ (w1 := wz.setCell ⟨g, i * 2 + 1, none⟩ (.int .i64 (1 - x.f1))) (by rfl) rfl ?_ ?_
     ·first | (go_simp; done) | (go_simp; rfl)
     refine hK.out _ _ ?_
     clear hK K
     refine done_ (by kernel_rfl) ?_
     clear hHeld c0 c1_ fz0 fz1 HS HSX ew
     generalize wz.setCell ⟨g, i * 2 + 1, none⟩ (.int .i64 (1 - x.f1)) = wn at HS2 ⊢
     go_wp2
     go_roundw
     case rel => first | exact ⟨i + 1, _, by go_num, by omega, HQ2, HO2, HS2⟩ | ((repeat apply Exists.intro); exact ⟨⟨i + 1, _, by go_num, by omega, HQ2, HO2, HS2⟩, rfl⟩)
     case measure => simp [intOf]; omega
    ·have bg : (rd l1 (i : Int) == rd l1 (a : Int)) = false := beq_false_of_ne hg6
     have HQ2 := Aside0.mk (HSF.out (fun h_ => hg6 h_.2))
     clear HST HSF
     go_wp2
     go_roundw
     case rel => first | exact ⟨i + 1, _, by go_num, by omega, HQ2, HOK, HS⟩ | ((repeat apply Exists.intro); exact ⟨⟨i + 1, _, by go_num, by omega, HQ2, HOK, HS⟩, rfl⟩)
     case measure => simp [intOf]; omega
   ·have b6 : (x.f0 == 6) = false := beq_false_of_ne h6
    refine start_ (n := 18) (S := fun w' => w'.cell? ⟨w.heap.size, 2, none⟩ = some (.slice (some ⟨g, 0, none⟩) n cap) ∧ w'.cell? ⟨g, i * 2, none⟩ = some (.int .i64 x.f0) ∧ w'.cell? (ad.add i) = some (.int .i64 (rd l1 (i : Int))) ∧ w'.cell? (ad.add a) = some (.int .i64 (rd l1 (a : Int)))) (ds := []) #[false,false,false,false,false,false,false,false,false,false,false,false,false,false,false,false,false,false] (by kernel_rfl) rfl rfl ⟨z2, c0, g1, g2⟩ (fun hHeld => ?_)
    refine Own.anew_ (wN := wr) Own.bel hHeld (fun wy hzb hHeld => ?_)
    replace HS := Aside0.mk (HS.out.below hzb)
    clear hzb z2 c0 g1 g2
    refine Own.pu_ (i := 0) (N := some 13) #[true,false,false,false,false,false,false,false,false,false,false,false,false,false,false,false,false,false] ?_
    refine Own.tk_ (i := 1) (N := some 14) #[true,true,false,false,false,false,false,false,false,false,false,false,false,false,false,false,false,false] hHeld ?_
    refine Own.pu_ (i := 2) (N := some 15) #[true,true,true,false,false,false,false,false,false,false,false,false,false,false,false,false,false,false] ?_
    refine Own.pu_ (i := 3) (N := some 16) #[true,true,true,true,false,false,false,false,false,false,false,false,false,false,false,false,false,false] ?_
    refine Own.pu_ (i := 4) (N := some 17) #[true,true,true,true,true,false,false,false,false,false,false,false,false,false,false,false,false,false] ?_
    refine Own.tk_ (i := 5) (N := some 18) #[true,true,true,true,true,true,false,false,false,false,false,false,false,false,false,false,false,false] hHeld ?_
    refine Own.pu_ (i := 6) (N := some 19) #[true,true,true,true,true,true,true,false,false,false,false,false,false,false,false,false,false,false] ?_
    refine Own.pu_ (i := 7) (N := some 20) #[true,true,true,true,true,true,true,true,false,false,false,false,false,false,false,false,false,false] ?_
    refine pure_ (i := 8) (N := some 21) (v := undef) (a' := ?_) #[true,true,true,true,true,true,true,true,true,false,false,false,false,false,false,false,false,false] rfl rfl (by kernel_rfl) (fun _ _ _ h => h) (Or.inr ⟨by rfl, rfl⟩) ?_ ?_
    rotate_left
    ·simp only [Own.putL]
     rfl
    refine pure_ (i := 9) (N := some 22) (v := undef) (a' := ?_) #[true,true,true,true,true,true,true,true,true,true,false,false,false,false,false,false,false,false] rfl rfl (by kernel_rfl) (fun _ _ _ h => h) (Or.inr ⟨by rfl, rfl⟩) ?_ ?_
    rotate_left
    ·simp only [Own.putL]
     rfl
    refine pure_ (i := 10) (N := some 23) (v := undef) (a' := ?_) #[true,true,true,true,true,true,true,true,true,true,true,false,false,false,false,false,false,false] rfl rfl (by kernel_rfl) (fun _ _ _ h => h) (Or.inr ⟨by rfl, rfl⟩) ?_ ?_
    rotate_left
    ·simp only [Own.putL]
     rfl
    refine pure_ (i := 11) (N := some 24) (v := undef) (a' := ?_) #[true,true,true,true,true,true,true,true,true,true,true,true,false,false,false,false,false,false] rfl rfl (by kernel_rfl) (fun _ _ _ h => h) (Or.inr ⟨by rfl, rfl⟩) ?_ ?_
    rotate_left
    ·simp only [Own.putL]
     rfl
    refine pure_ (i := 12) (N := some 25) (v := undef) (a' := ?_) #[true,true,true,true,true,true,true,true,true,true,true,true,true,false,false,false,false,false] rfl rfl (by kernel_rfl) (fun _ _ _ h => h) (Or.inr ⟨by rfl, rfl⟩) ?_ ?_
    rotate_left
    ·simp only [Own.putL]
     rfl
    refine pure_ (i := 13) (N := some 26) (v := undef) (a' := ?_) #[true,true,true,true,true,true,true,true,true,true,true,true,true,true,false,false,false,false] rfl rfl (by kernel_rfl) (fun _ _ _ h => h) (Or.inr ⟨by rfl, rfl⟩) ?_ ?_
    rotate_left
    ·simp only [Own.putL]
     rfl
    refine pure_ (i := 14) (N := some 27) (v := undef) (a' := ?_) #[true,true,true,true,true,true,true,true,true,true,true,true,true,true,true,false,false,false] rfl rfl (by kernel_rfl) (fun _ _ _ h => h) (Or.inr ⟨by rfl, rfl⟩) ?_ ?_
    rotate_left
    ·simp only [Own.putL]
     rfl
    refine pure_ (i := 15) (N := some 28) (v := undef) (a' := ?_) #[true,true,true,true,true,true,true,true,true,true,true,true,true,true,true,true,false,false] rfl rfl (by kernel_rfl) (fun _ _ _ h => h) (Or.inr ⟨by rfl, rfl⟩) ?_ ?_
    rotate_left
    ·simp only [Own.putL]
     rfl
    refine pure_ (i := 16) (N := some 29) (v := undef) (a' := ?_) #[true,true,true,true,true,true,true,true,true,true,true,true,true,true,true,true,true,false] rfl rfl (by kernel_rfl) (fun _ _ _ h => h) (Or.inr ⟨by rfl, rfl⟩) ?_ ?_
    rotate_left
    ·simp only [Own.putL]
     rfl
    refine Own.pu_ (i := 17) (N := some 30) #[true,true,true,true,true,true,true,true,true,true,true,true,true,true,true,true,true,true] ?_
    refine done_ (by kernel_rfl) ?_
    clear hHeld
    have HQ2 := Aside0.mk (HSF.out (fun h_ => h6 h_.1))
    clear HST HSF
    go_wp2
    go_roundw
    case rel => first | exact ⟨i + 1, _, by go_num, by omega, HQ2, HOK, HS⟩ | ((repeat apply Exists.intro); exact ⟨⟨i + 1, _, by go_num, by omega, HQ2, HOK, HS⟩, rfl⟩)
    case measure => simp [intOf]; omega
  ·obtain rfl : i = n := by omega
   have hq := HQ.out
   have hle := HS.out.le
   rw [List.take_of_length_le (by omega), List.drop_of_length_le (by omega), turnAll, List.append_nil] at hq
   subst hq
   clear HQ
   go_wp2
   (try simp only [Exit.inBlock, Exit.then])
   refine bodyPost_end (results_none rfl _ _ _) rfl ?_
   exact ⟨rfl, HS.out.out, HS.out.be, HS.out.kp⟩
end Go.Proofs.Ytcilbmbgdcepgaa.P
