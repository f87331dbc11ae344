/- The walk of impl.TableOfBoard (printed by gen_tb.py). -/
import Derived.Test.YtcilbmbgdcepgaaYFnExactTableOfBoardAVals
import Derived.Test.YtcilbmbgdcepgaaZFnExactTableOfBoard0
import Derived.Test.YtcilbmbgdcepgaaZFnExactTableOfBoard1
import Derived.Test.YtcilbmbgdcepgaaYFnExactTableOfBoardPx93
namespace Go.Proofs.Ytcilbmbgdcepgaa.P
open Go.RowKit YtcilbmbgdcepgaaW.PrintWords YtcilbmbgdcepgaaW.PrintLast YtcilbmbgdcepgaaW.PrintMore Own A
set_option linter.unusedVariables false
set_option linter.unusedSimpArgs false
/-! ### impl_TableOfBoard: function 36 -/
def impl_TableOfBoard.f (k : Nat) (a0_0 : Int) (a0_1 : Int) (l0_2 : List (S71)) (a1 : Int) (a2 : Int) : Option (Int × List Int × Bool) := if l0_2.length ≤ maxLen then some (resTB a0_0 a0_1 l0_2 a1 a2) else none
theorem impl_TableOfBoard.mono : ∀ a0 a1 a2 a3 a4 k, LeO (impl_TableOfBoard.f k a0 a1 a2 a3 a4) (impl_TableOfBoard.f (k + 1) a0 a1 a2 a3 a4) := fun _ _ _ _ _ _ _ h => h
set_option maxHeartbeats 8000000 in
set_option maxRecDepth 100000 in
theorem impl_TableOfBoard.calls (k : Nat) (a0_0 : Int) (a0_1 : Int) (A0_2 : Option Addr) (c0_2 : Nat) (l0_2 : List (S71)) (a1 : Int) (a2 : Int) (r1 : Int) (r2 : List Int) (r3 : Bool) (w : World) (hr0_2 : Kd.C k71 w A0_2 l0_2.length l0_2) (hc0_2 : l0_2.length ≤ c0_2) (h : impl_TableOfBoard.f k a0_0 a0_1 l0_2 a1 a2 = some (r1, r2, r3)) :
  Calls Try.prog 36 #[.agg #[.int .i64 a0_0, .int .i64 a0_1, .slice A0_2 l0_2.length c0_2], .int .i64 a1, .int .i64 a2] w fun e w' => ∃ v1_ : Value, e = .returned (.tuple #[.agg #[.int .i64 r1, v1_], .bool r3]) ∧ Kd.R (Kd.int .i64) 3 w' w.heap.size (fun _ => True) v1_ r2 ∧ Below w.heap.size w w' := by
 have hu24 := Try.underlying24
 have hu51 := Try.underlying51
 have hu39 := Try.underlying39
 unfold impl_TableOfBoard.f at h
 by_cases hk : l0_2.length ≤ maxLen
 case neg => rw [if_neg hk] at h; simp at h
 rw [if_pos hk] at h
 replace h := Option.some.inj h
 have HC := Aside0.mk hr0_2
 have HCC := Aside0.mk hc0_2
 obtain ⟨KB, hKB⟩ := isBoard a0_0 a0_1 l0_2 hk
 obtain ⟨bo, hbo⟩ : ∃ b : Bool, b = decide (BoOk a0_0 a0_1 l0_2) := ⟨_, rfl⟩
 have HV : Aside0 (impl_IsBoard.f KB a0_0 a0_1 l0_2 = some bo) := ⟨by rw [hbo]; exact hKB KB (Nat.le_refl _)⟩
 obtain ⟨b7, h7⟩ : ∃ b : Bool, b = (!bo || decide (a2 < 0)) := ⟨_, rfl⟩
 obtain ⟨b11, h11⟩ : ∃ b : Bool, b = (b7 || decide (3 < a2)) := ⟨_, rfl⟩
 obtain ⟨b18, h18⟩ : ∃ b : Bool, b = (b11 || (a0_1 != 2 ^ a2.toNat)) := ⟨_, rfl⟩
 obtain ⟨b22, h22⟩ : ∃ b : Bool, b = (b18 || decide (a1 < 0)) := ⟨_, rfl⟩
 obtain ⟨b27, h27⟩ : ∃ b : Bool, b = (b22 || decide (a0_1 < a1)) := ⟨_, rfl⟩
 have HBAD := Aside0.mk (tbBad a0_0 a0_1 l0_2 a1 a2 bo b7 b11 b18 b22 b27 hbo h7 h11 h18 h22 h27)
 have H7 := Aside0.mk h7
 have H11 := Aside0.mk h11
 have H18 := Aside0.mk h18
 have H22 := Aside0.mk h22
 have H27 := Aside0.mk h27
 have HR := Aside0.mk h
 have HSH : Aside0 (b11 = false → a2 = 0 ∨ a2 = 1 ∨ a2 = 2 ∨ a2 = 3) := ⟨fun e => by rw [h11, h7] at e; simp only [Bool.or_eq_false_iff, decide_eq_false_iff_not] at e; omega⟩
 have z1 : (w.alloc (.cells #[.int .i64 a0_0, .int .i64 a0_1, .slice A0_2 l0_2.length c0_2] 24)).heap.size = w.heap.size + 1 := Array.size_push _
 have BA := Aside0.mk (blk_alloc (blk_new w (.cells #[.int .i64 a0_0, .int .i64 a0_1, .slice A0_2 l0_2.length c0_2] 24)) (.cells #[.int .i64 0, .slice none 0 0] 51))
 have BF := Aside0.mk (blk_new (w.alloc (.cells #[.int .i64 a0_0, .int .i64 a0_1, .slice A0_2 l0_2.length c0_2] 24)) (.cells #[.int .i64 0, .slice none 0 0] 51))
 rw [z1] at BF
 have HB0 := Aside0.mk (below_alloc (below_alloc (Below.refl w.heap.size w) (.cells #[.int .i64 a0_0, .int .i64 a0_1, .slice A0_2 l0_2.length c0_2] 24)) (.cells #[.int .i64 0, .slice none 0 0] 51))
 clear hr0_2 hc0_2 hk hKB hbo h7 h11 h18 h22 h27 h z1
 go_enter Try.func36, Try.ntmps36
 go_wp2
 generalize ((w.alloc (.cells #[.int .i64 a0_0, .int .i64 a0_1, .slice A0_2 l0_2.length c0_2] 24)).alloc (.cells #[.int .i64 0, .slice none 0 0] 51)) = wn at BA BF HB0 ⊢
 refine start_ (n := 28) (S := fun w' => w'.cell? ⟨w.heap.size, 0, none⟩ = some (.int .i64 a0_0) ∧ w'.cell? ⟨w.heap.size, 1, none⟩ = some (.int .i64 a0_1) ∧ w'.cell? ⟨w.heap.size, 2, none⟩ = some (.slice A0_2 l0_2.length c0_2)) (ds := []) #[false,false,false,false,false,false,false,false,false,false,false,false,false,false,false,false,false,false,false,false,false,false,false,false,false,false,false,false] (by kernel_rfl) rfl rfl ⟨(blk_cell BA.out 0).trans rfl, (blk_cell BA.out 1).trans rfl, (blk_cell BA.out 2).trans rfl⟩ (fun hHeld => ?_)
 refine Own.anew_ (wN := wn) Own.bel hHeld (fun wy hzb hHeld => ?_)
 replace BA := Aside0.mk (blk_below BA.out hzb)
 replace BF := Aside0.mk (blk_below BF.out hzb)
 replace HB0 := Aside0.mk (below_step HB0.out hzb)
 clear hzb
 refine Own.tk_ (i := 0) (N := some 11) #[true,false,false,false,false,false,false,false,false,false,false,false,false,false,false,false,false,false,false,false,false,false,false,false,false,false,false,false] hHeld ?_
 refine one_ (i := 1) (N := some 12) #[true,true,false,false,false,false,false,false,false,false,false,false,false,false,false,false,false,false,false,false,false,false,false,false,false,false,false,false] rfl rfl (by kernel_rfl) (by decide) (fun K hK => ?_)
 refine goes_ Try.func56 (by kernel_rfl) rfl #[.agg #[.int .i64 a0_0, .int .i64 a0_1, .slice A0_2 l0_2.length c0_2]] (by rfl) rfl rfl Own.mapd ?_
 with_reducible refine (impl_IsBoard.calls KB _ _ _ _ l0_2 bo _ (Kd.C_below HC.out HB0.out) HCC.out HV.out).mono ?_
 rintro e wb ⟨rfl, hb⟩
 refine ⟨_, rfl, ?_⟩
 replace BA := Aside0.mk (blk_below BA.out hb)
 replace BF := Aside0.mk (blk_below BF.out hb)
 replace HB0 := Aside0.mk (below_step HB0.out hb)
 clear hb
 refine hK.out _ _ ⟨(blk_cell BA.out 0).trans rfl, (blk_cell BA.out 1).trans rfl, (blk_cell BA.out 2).trans rfl⟩ (fun hHeld => ?_)
 clear hK K
 refine Own.nm_ (some 12) ?_
 refine pure_ (i := 2) (N := some 13) (v := .bool !bo) (a' := ?_) #[true,true,true,false,false,false,false,false,false,false,false,false,false,false,false,false,false,false,false,false,false,false,false,false,false,false,false,false] rfl rfl (by kernel_rfl) (fun _ _ _ h => h) (Or.inl ⟨by rfl, fun w' => by first | (go_simp; done) | (go_simp; rfl)⟩) ?_ ?_
 rotate_left
 ·simp only [Own.putL]
  rfl
 refine pure_ (i := 3) (N := some 14) (v := .bool !bo) (a' := ?_) #[true,true,true,true,false,false,false,false,false,false,false,false,false,false,false,false,false,false,false,false,false,false,false,false,false,false,false,false] rfl rfl (by kernel_rfl) (fun _ _ _ h => h) (Or.inl ⟨by rfl, fun w' => by first | (go_simp; done) | (go_simp; rfl)⟩) ?_ ?_
 rotate_left
 ·simp only [Own.putL]
  rfl
 obtain ⟨u4, hu_⟩ : ∃ u_ : Value, u_ = (if !bo then undef else .int .i64 a2) := ⟨_, rfl⟩
 have HU4 := Aside0.mk hu_
 clear hu_
 refine pure_ (i := 4) (N := some 15) (v := u4) (a' := ?_) #[true,true,true,true,true,false,false,false,false,false,false,false,false,false,false,false,false,false,false,false,false,false,false,false,false,false,false,false] rfl rfl (by kernel_rfl) (fun _ _ _ h => h) (by rw [HU4.out]; cases hb_ : !bo; exact Or.inl ⟨by rfl, fun w' => by (first | (go_simp; done) | (go_simp; rfl))⟩; exact Or.inr ⟨by rfl, rfl⟩) ?_ ?_
 rotate_left
 ·simp only [Own.putL]
  rfl
 obtain ⟨u5, hu_⟩ : ∃ u_ : Value, u_ = (if !bo then undef else .bool (decide (a2 < 0))) := ⟨_, rfl⟩
 have HU5 := Aside0.mk hu_
 clear hu_
 refine pure_ (i := 5) (N := some 16) (v := u5) (a' := ?_) #[true,true,true,true,true,true,false,false,false,false,false,false,false,false,false,false,false,false,false,false,false,false,false,false,false,false,false,false] rfl rfl (by kernel_rfl) (fun _ _ _ h => h) (by rw [HU5.out, HU4.out]; cases hb_ : !bo; exact Or.inl ⟨by rfl, fun w' => by (first | (go_simp; done) | (go_simp; rfl))⟩; exact Or.inr ⟨by rfl, rfl⟩) ?_ ?_
 rotate_left
 ·simp only [Own.putL]
  rfl
 refine pure_ (i := 6) (N := some 17) (v := .bool b7) (a' := ?_) #[true,true,true,true,true,true,true,false,false,false,false,false,false,false,false,false,false,false,false,false,false,false,false,false,false,false,false,false] rfl rfl (by kernel_rfl) (fun _ _ _ h => h) (Or.inl ⟨by rfl, fun w' => by rw [H7.out]; rw [HU5.out]; cases bo <;> (first | (go_simp; done) | (go_simp; rfl))⟩) ?_ ?_
 rotate_left
 ·simp only [Own.putL]
  rfl
 refine pure_ (i := 7) (N := some 18) (v := .bool b7) (a' := ?_) #[true,true,true,true,true,true,true,true,false,false,false,false,false,false,false,false,false,false,false,false,false,false,false,false,false,false,false,false] rfl rfl (by kernel_rfl) (fun _ _ _ h => h) (Or.inl ⟨by rfl, fun w' => by first | (go_simp; done) | (go_simp; rfl)⟩) ?_ ?_
 rotate_left
 ·simp only [Own.putL]
  rfl
 obtain ⟨u8, hu_⟩ : ∃ u_ : Value, u_ = (if b7 then undef else .int .i64 a2) := ⟨_, rfl⟩
 have HU8 := Aside0.mk hu_
 clear hu_
 refine pure_ (i := 8) (N := some 19) (v := u8) (a' := ?_) #[true,true,true,true,true,true,true,true,true,false,false,false,false,false,false,false,false,false,false,false,false,false,false,false,false,false,false,false] rfl rfl (by kernel_rfl) (fun _ _ _ h => h) (by rw [HU8.out]; cases hb_ : b7; exact Or.inl ⟨by rfl, fun w' => by (first | (go_simp; done) | (go_simp; rfl))⟩; exact Or.inr ⟨by rfl, rfl⟩) ?_ ?_
 rotate_left
 ·simp only [Own.putL]
  rfl
 obtain ⟨u9, hu_⟩ : ∃ u_ : Value, u_ = (if b7 then undef else .bool (decide (3 < a2))) := ⟨_, rfl⟩
 have HU9 := Aside0.mk hu_
 clear hu_
 refine pure_ (i := 9) (N := some 20) (v := u9) (a' := ?_) #[true,true,true,true,true,true,true,true,true,true,false,false,false,false,false,false,false,false,false,false,false,false,false,false,false,false,false,false] rfl rfl (by kernel_rfl) (fun _ _ _ h => h) (by rw [HU9.out, HU8.out]; cases hb_ : b7; exact Or.inl ⟨by rfl, fun w' => by (first | (go_simp; done) | (go_simp; rfl))⟩; exact Or.inr ⟨by rfl, rfl⟩) ?_ ?_
 rotate_left
 ·simp only [Own.putL]
  rfl
 refine pure_ (i := 10) (N := some 21) (v := .bool b11) (a' := ?_) #[true,true,true,true,true,true,true,true,true,true,true,false,false,false,false,false,false,false,false,false,false,false,false,false,false,false,false,false] rfl rfl (by kernel_rfl) (fun _ _ _ h => h) (Or.inl ⟨by rfl, fun w' => by rw [H11.out]; rw [HU9.out]; cases b7 <;> (first | (go_simp; done) | (go_simp; rfl))⟩) ?_ ?_
 rotate_left
 ·simp only [Own.putL]
  rfl
 refine pure_ (i := 11) (N := some 22) (v := .bool b11) (a' := ?_) #[true,true,true,true,true,true,true,true,true,true,true,true,false,false,false,false,false,false,false,false,false,false,false,false,false,false,false,false] rfl rfl (by kernel_rfl) (fun _ _ _ h => h) (Or.inl ⟨by rfl, fun w' => by first | (go_simp; done) | (go_simp; rfl)⟩) ?_ ?_
 rotate_left
 ·simp only [Own.putL]
  rfl
 obtain ⟨u12, hu_⟩ : ∃ u_ : Value, u_ = (if b11 then undef else .pointer (some ⟨w.heap.size, 1, none⟩)) := ⟨_, rfl⟩
 have HU12 := Aside0.mk hu_
 clear hu_
 refine pure_ (i := 12) (N := some 23) (v := u12) (a' := ?_) #[true,true,true,true,true,true,true,true,true,true,true,true,true,false,false,false,false,false,false,false,false,false,false,false,false,false,false,false] rfl rfl (by kernel_rfl) (fun _ _ _ h => h) (by rw [HU12.out]; cases hb_ : b11; exact Or.inl ⟨by rfl, fun w' => by (first | (go_simp; done) | (go_simp; rfl))⟩; exact Or.inr ⟨by rfl, rfl⟩) ?_ ?_
 rotate_left
 ·simp only [Own.putL]
  rfl
 obtain ⟨u13, hu_⟩ : ∃ u_ : Value, u_ = (if b11 then undef else .int .i64 a0_1) := ⟨_, rfl⟩
 have HU13 := Aside0.mk hu_
 clear hu_
 refine take_ (i := 13) (N := some 24) (v := u13) (a' := ?_) #[true,true,true,true,true,true,true,true,true,true,true,true,true,true,false,false,false,false,false,false,false,false,false,false,false,false,false,false] rfl rfl (by kernel_rfl) (fun _ _ _ h => h) (by rw [HU13.out, HU12.out]; cases hb_ : b11; exact Or.inl ⟨by rfl, fun w' hs_ => by obtain ⟨s0, s1, s2⟩ := hs_; first | (go_simp; done) | (go_simp; rfl)⟩; exact Or.inr ⟨by rfl, rfl⟩) hHeld ?_ ?_
 rotate_left
 ·simp only [Own.putL]
  rfl
 obtain ⟨u14, hu_⟩ : ∃ u_ : Value, u_ = (if b11 then undef else .int .i64 a2) := ⟨_, rfl⟩
 have HU14 := Aside0.mk hu_
 clear hu_
 refine pure_ (i := 14) (N := some 25) (v := u14) (a' := ?_) #[true,true,true,true,true,true,true,true,true,true,true,true,true,true,true,false,false,false,false,false,false,false,false,false,false,false,false,false] rfl rfl (by kernel_rfl) (fun _ _ _ h => h) (by rw [HU14.out]; cases hb_ : b11; exact Or.inl ⟨by rfl, fun w' => by (first | (go_simp; done) | (go_simp; rfl))⟩; exact Or.inr ⟨by rfl, rfl⟩) ?_ ?_
 rotate_left
 ·simp only [Own.putL]
  rfl
 obtain ⟨u15, hu_⟩ : ∃ u_ : Value, u_ = (if b11 then undef else .int .i64 (2 ^ a2.toNat)) := ⟨_, rfl⟩
 have HU15 := Aside0.mk hu_
 clear hu_
 refine pure_ (i := 15) (N := some 26) (v := u15) (a' := ?_) #[true,true,true,true,true,true,true,true,true,true,true,true,true,true,true,true,false,false,false,false,false,false,false,false,false,false,false,false] rfl rfl (by kernel_rfl) (fun _ _ _ h => h) (by rw [HU15.out, HU14.out]; cases hb_ : b11; exact Or.inl ⟨by rfl, fun w' => by rcases HSH.out hb_ with rfl | rfl | rfl | rfl <;> (first | (go_simp; done) | (go_simp; rfl))⟩; exact Or.inr ⟨by rfl, rfl⟩) ?_ ?_
 rotate_left
 ·simp only [Own.putL]
  rfl
 obtain ⟨u16, hu_⟩ : ∃ u_ : Value, u_ = (if b11 then undef else .bool (a0_1 != 2 ^ a2.toNat)) := ⟨_, rfl⟩
 have HU16 := Aside0.mk hu_
 clear hu_
 refine pure_ (i := 16) (N := some 27) (v := u16) (a' := ?_) #[true,true,true,true,true,true,true,true,true,true,true,true,true,true,true,true,true,false,false,false,false,false,false,false,false,false,false,false] rfl rfl (by kernel_rfl) (fun _ _ _ h => h) (by rw [HU16.out, HU13.out, HU15.out]; cases hb_ : b11; exact Or.inl ⟨by rfl, fun w' => by (first | (go_simp; done) | (go_simp; rfl))⟩; exact Or.inr ⟨by rfl, rfl⟩) ?_ ?_
 rotate_left
 ·simp only [Own.putL]
  rfl
 refine pure_ (i := 17) (N := some 28) (v := .bool b18) (a' := ?_) #[true,true,true,true,true,true,true,true,true,true,true,true,true,true,true,true,true,true,false,false,false,false,false,false,false,false,false,false] rfl rfl (by kernel_rfl) (fun _ _ _ h => h) (Or.inl ⟨by rfl, fun w' => by rw [H18.out]; rw [HU16.out]; cases b11 <;> (first | (go_simp; done) | (go_simp; rfl))⟩) ?_ ?_
 rotate_left
 ·simp only [Own.putL]
  rfl
 refine pure_ (i := 18) (N := some 29) (v := .bool b18) (a' := ?_) #[true,true,true,true,true,true,true,true,true,true,true,true,true,true,true,true,true,true,true,false,false,false,false,false,false,false,false,false] rfl rfl (by kernel_rfl) (fun _ _ _ h => h) (Or.inl ⟨by rfl, fun w' => by first | (go_simp; done) | (go_simp; rfl)⟩) ?_ ?_
 rotate_left
 ·simp only [Own.putL]
  rfl
 obtain ⟨u19, hu_⟩ : ∃ u_ : Value, u_ = (if b18 then undef else .int .i64 a1) := ⟨_, rfl⟩
 have HU19 := Aside0.mk hu_
 clear hu_
 refine pure_ (i := 19) (N := some 30) (v := u19) (a' := ?_) #[true,true,true,true,true,true,true,true,true,true,true,true,true,true,true,true,true,true,true,true,false,false,false,false,false,false,false,false] rfl rfl (by kernel_rfl) (fun _ _ _ h => h) (by rw [HU19.out]; cases hb_ : b18; exact Or.inl ⟨by rfl, fun w' => by (first | (go_simp; done) | (go_simp; rfl))⟩; exact Or.inr ⟨by rfl, rfl⟩) ?_ ?_
 rotate_left
 ·simp only [Own.putL]
  rfl
 obtain ⟨u20, hu_⟩ : ∃ u_ : Value, u_ = (if b18 then undef else .bool (decide (a1 < 0))) := ⟨_, rfl⟩
 have HU20 := Aside0.mk hu_
 clear hu_
 refine pure_ (i := 20) (N := some 31) (v := u20) (a' := ?_) #[true,true,true,true,true,true,true,true,true,true,true,true,true,true,true,true,true,true,true,true,true,false,false,false,false,false,false,false] rfl rfl (by kernel_rfl) (fun _ _ _ h => h) (by rw [HU20.out, HU19.out]; cases hb_ : b18; exact Or.inl ⟨by rfl, fun w' => by (first | (go_simp; done) | (go_simp; rfl))⟩; exact Or.inr ⟨by rfl, rfl⟩) ?_ ?_
 rotate_left
 ·simp only [Own.putL]
  rfl
 refine pure_ (i := 21) (N := some 32) (v := .bool b22) (a' := ?_) #[true,true,true,true,true,true,true,true,true,true,true,true,true,true,true,true,true,true,true,true,true,true,false,false,false,false,false,false] rfl rfl (by kernel_rfl) (fun _ _ _ h => h) (Or.inl ⟨by rfl, fun w' => by rw [H22.out]; rw [HU20.out]; cases b18 <;> (first | (go_simp; done) | (go_simp; rfl))⟩) ?_ ?_
 rotate_left
 ·simp only [Own.putL]
  rfl
 refine pure_ (i := 22) (N := some 33) (v := .bool b22) (a' := ?_) #[true,true,true,true,true,true,true,true,true,true,true,true,true,true,true,true,true,true,true,true,true,true,true,false,false,false,false,false] rfl rfl (by kernel_rfl) (fun _ _ _ h => h) (Or.inl ⟨by rfl, fun w' => by first | (go_simp; done) | (go_simp; rfl)⟩) ?_ ?_
 rotate_left
 ·simp only [Own.putL]
  rfl
 obtain ⟨u23, hu_⟩ : ∃ u_ : Value, u_ = (if b22 then undef else .int .i64 a1) := ⟨_, rfl⟩
 have HU23 := Aside0.mk hu_
 clear hu_
 refine pure_ (i := 23) (N := some 34) (v := u23) (a' := ?_) #[true,true,true,true,true,true,true,true,true,true,true,true,true,true,true,true,true,true,true,true,true,true,true,true,false,false,false,false] rfl rfl (by kernel_rfl) (fun _ _ _ h => h) (by rw [HU23.out]; cases hb_ : b22; exact Or.inl ⟨by rfl, fun w' => by (first | (go_simp; done) | (go_simp; rfl))⟩; exact Or.inr ⟨by rfl, rfl⟩) ?_ ?_
 rotate_left
 ·simp only [Own.putL]
  rfl
 obtain ⟨u24, hu_⟩ : ∃ u_ : Value, u_ = (if b22 then undef else .pointer (some ⟨w.heap.size, 1, none⟩)) := ⟨_, rfl⟩
 have HU24 := Aside0.mk hu_
 clear hu_
 refine pure_ (i := 24) (N := some 35) (v := u24) (a' := ?_) #[true,true,true,true,true,true,true,true,true,true,true,true,true,true,true,true,true,true,true,true,true,true,true,true,true,false,false,false] rfl rfl (by kernel_rfl) (fun _ _ _ h => h) (by rw [HU24.out]; cases hb_ : b22; exact Or.inl ⟨by rfl, fun w' => by (first | (go_simp; done) | (go_simp; rfl))⟩; exact Or.inr ⟨by rfl, rfl⟩) ?_ ?_
 rotate_left
 ·simp only [Own.putL]
  rfl
 obtain ⟨u25, hu_⟩ : ∃ u_ : Value, u_ = (if b22 then undef else .int .i64 a0_1) := ⟨_, rfl⟩
 have HU25 := Aside0.mk hu_
 clear hu_
 refine take_ (i := 25) (N := some 36) (v := u25) (a' := ?_) #[true,true,true,true,true,true,true,true,true,true,true,true,true,true,true,true,true,true,true,true,true,true,true,true,true,true,false,false] rfl rfl (by kernel_rfl) (fun _ _ _ h => h) (by rw [HU25.out, HU24.out]; cases hb_ : b22; exact Or.inl ⟨by rfl, fun w' hs_ => by obtain ⟨s0, s1, s2⟩ := hs_; first | (go_simp; done) | (go_simp; rfl)⟩; exact Or.inr ⟨by rfl, rfl⟩) hHeld ?_ ?_
 rotate_left
 ·simp only [Own.putL]
  rfl
 obtain ⟨u26, hu_⟩ : ∃ u_ : Value, u_ = (if b22 then undef else .bool (decide (a0_1 < a1))) := ⟨_, rfl⟩
 have HU26 := Aside0.mk hu_
 clear hu_
 refine pure_ (i := 26) (N := some 37) (v := u26) (a' := ?_) #[true,true,true,true,true,true,true,true,true,true,true,true,true,true,true,true,true,true,true,true,true,true,true,true,true,true,true,false] rfl rfl (by kernel_rfl) (fun _ _ _ h => h) (by rw [HU26.out, HU23.out, HU25.out]; cases hb_ : b22; exact Or.inl ⟨by rfl, fun w' => by (first | (go_simp; done) | (go_simp; rfl))⟩; exact Or.inr ⟨by rfl, rfl⟩) ?_ ?_
 rotate_left
 ·simp only [Own.putL]
  rfl
 refine pure_ (i := 27) (N := some 38) (v := .bool b27) (a' := ?_) #[true,true,true,true,true,true,true,true,true,true,true,true,true,true,true,true,true,true,true,true,true,true,true,true,true,true,true,true] rfl rfl (by kernel_rfl) (fun _ _ _ h => h) (Or.inl ⟨by rfl, fun w' => by rw [H27.out]; rw [HU26.out]; cases b22 <;> (first | (go_simp; done) | (go_simp; rfl))⟩) ?_ ?_
 rotate_left
 ·simp only [Own.putL]
  rfl
 refine done_ (by kernel_rfl) ?_
 clear hHeld H7 H11 H18 H22 H27 HSH HV HU4 HU5 HU8 HU9 HU12 HU13 HU14 HU15 HU16 HU19 HU20 HU23 HU24 HU25 HU26
 obtain ⟨eb, er⟩ | ⟨eb, et⟩ := HBAD.out
 ·subst eb
  have h_ := HR.out
  rw [er] at h_
  cases h_
  clear er HR HBAD
  have x0 := (blk_cell BA.out 0).trans rfl
  have x1 := (blk_cell BA.out 1).trans rfl
  have x2 := (blk_cell BA.out 2).trans rfl
  have y0 := (blk_cell BF.out 0).trans rfl
  have y1 := (blk_cell BF.out 1).trans rfl
  have f0 := blk_frozen BF.out 0
  have f1 := blk_frozen BF.out 1
  go_wp2
  have G5 := blk_put (cs' := #[.int .i64 0, .slice none 0 0]) BF.out 0 (.int .i64 0) rfl
  have G6 := blk_put (cs' := #[.int .i64 0, .slice none 0 0]) G5 1 (.slice none 0 0) rfl
  have Z6 := below_set (j := 1) (v := .slice none 0 0) (below_set (j := 0) (v := .int .i64 0) HB0.out (g := w.heap.size + 1) (Nat.le_add_right _ 1)) (Nat.le_add_right _ 1)
  have e0 := (blk_cell G6 0).trans rfl
  have e1 := (blk_cell G6 1).trans rfl
  exact bodyPost_ret (v := .tuple #[.agg #[.int .i64 0, .slice none 0 0], .bool false]) (by simp [results, Try.results36, go_sem, e0, e1]) rfl ⟨_, rfl, Kd.R_nil _ _ _ _ _, Z6⟩
 subst eb
 obtain ⟨KE, hKE⟩ := entryVals a0_0 a0_1 l0_2 a1 et.1
 obtain ⟨vs, hvs⟩ : ∃ l_, l_ = valsE a0_0 a0_1 l0_2 a1 := ⟨_, rfl⟩
 have hvl : vs.length ≤ 9 := by rw [hvs, valsE_len]; have := et.1.2.1.2; omega
 have HVL := Aside0.mk hvl
 have h_ := HR.out
 unfold resTB at h_
 rw [if_pos et, ← hvs] at h_
 have HE : Aside0 (impl_entryValues.f KE a0_0 a0_1 l0_2 a1 = some vs) := ⟨by rw [hvs]; exact hKE KE (Nat.le_refl _)⟩
 replace HR := Aside0.mk h_
 clear h_ hvs hvl hKE et HBAD
 have x0 := (blk_cell BA.out 0).trans rfl
 have x1 := (blk_cell BA.out 1).trans rfl
 have x2 := (blk_cell BA.out 2).trans rfl
 have y0 := (blk_cell BF.out 0).trans rfl
 have y1 := (blk_cell BF.out 1).trans rfl
 have f0 := blk_frozen BF.out 0
 have f1 := blk_frozen BF.out 1
 go_wp2_with (first
  | (go_at_call 75; (with_reducible refine (impl_entryValues.calls KE _ _ _ _ l0_2 _ vs _ (Kd.C_below HC.out HB0.out) HCC.out HE.out).mono ?_); rintro e w3 ⟨v, rfl, hR, hb⟩; obtain ⟨Av, cv, ev⟩ := Kd.R_slice hR; subst ev; have HVS := Aside0.mk (Kd.R_lower hR HB0.out.size); have BF3 := Aside0.mk (blk_below BF.out hb); have HB3 := Aside0.mk (below_step HB0.out hb); clear hb hR BA BF HB0 x0 x1 x2 y0 y1 f0 f1 HC HCC HE)
  | fail)
 go_loopw [10, 45] (fun v10 v45 wr => ∃ (i : Nat), v45 = .int .i64 i ∧ i ≤ vs.length ∧ Aside0 (∀ v ∈ vs.take i, 0 ≤ v) ∧ Aside0 (wr.heap[w.heap.size + 1]? = some (.cells #[.int .i64 0, .slice none 0 0] 51 (0, 0))) ∧ Aside0 (Below w.heap.size w wr) ∧ Aside0 (Kd.R (Kd.int .i64) 3 wr w.heap.size (fun _ => True) (.slice Av vs.length cv) vs)) (fun _ i _ => vs.length - (intOf i).toNat)
 case atStart => exact ⟨0, rfl, Nat.zero_le _, ⟨by simp⟩, BF3, HB3, HVS⟩
 case round =>
  clear BF3 HB3 HVS
  obtain ⟨i, rfl, hi, HP, BF, HB, HVS⟩ := hrel
  have y0 := (blk_cell BF.out 0).trans rfl
  have y1 := (blk_cell BF.out 1).trans rfl
  have f0 := blk_frozen BF.out 0
  have f1 := blk_frozen BF.out 1
  by_cases hil : i < vs.length
  ·obtain ⟨ad, ea, g0⟩ := Kd.at_int (Kd.R_reads' HVS.out).2.2 (i : Int) (by omega) (by omega)
   subst ea
   rw [Int.toNat_natCast] at g0
   obtain ⟨x, hx⟩ : ∃ x, x = rd vs (i : Int) := ⟨_, rfl⟩
   rw [← hx] at g0
   have hx2 : vs[i]? = some x := by rw [hx]; unfold rd; rw [Int.toNat_natCast, List.getD_eq_getElem?_getD]; rw [List.getElem?_eq_getElem hil]; rfl
   have HX := Aside0.mk hx2
   clear hx hx2
   by_cases hn : x < 0
   ·have h_ := HR.out
    rw [if_neg (fun h2 => absurd (h2 x (List.mem_of_getElem? HX.out)) (by omega))] at h_
    cases h_
    clear HR
    go_wp2
    have G5 := blk_put (cs' := #[.int .i64 0, .slice none 0 0]) BF.out 0 (.int .i64 0) rfl
    have G6 := blk_put (cs' := #[.int .i64 0, .slice none 0 0]) G5 1 (.slice none 0 0) rfl
    have Z6 := below_set (j := 1) (v := .slice none 0 0) (below_set (j := 0) (v := .int .i64 0) HB.out (g := w.heap.size + 1) (Nat.le_add_right _ 1)) (Nat.le_add_right _ 1)
    have e0 := (blk_cell G6 0).trans rfl
    have e1 := (blk_cell G6 1).trans rfl
    exact bodyPost_ret (v := .tuple #[.agg #[.int .i64 0, .slice none 0 0], .bool false]) (by simp [results, Try.results36, go_sem, e0, e1]) rfl ⟨_, rfl, Kd.R_nil _ _ _ _ _, Z6⟩
   ·have HP2 : Aside0 (∀ v ∈ vs.take (i + 1), 0 ≤ v) := ⟨fun v hv => by rw [List.take_add_one, HX.out] at hv; rcases List.mem_append.1 hv with h2 | h2; exact HP.out v h2; simp at h2; subst h2; omega⟩
    have hvl := HVL.out
    go_wp2
    go_roundw
    case rel => first | exact ⟨i + 1, by go_num, by omega, HP2, BF, HB, HVS⟩ | ((repeat apply Exists.intro); exact ⟨⟨i + 1, by go_num, by omega, HP2, BF, HB, HVS⟩, rfl⟩)
    case measure => simp [intOf]; omega
  ·obtain rfl : i = vs.length := by omega
   have h_ := HR.out
   rw [if_pos (fun v hv => HP.out v (by rw [List.take_length]; exact hv))] at h_
   cases h_
   clear HR HP
   go_wp2
   have G5 := blk_put (cs' := #[.int .i64 a2, .slice none 0 0]) BF.out 0 (.int .i64 a2) rfl
   have G6 := blk_put (cs' := #[.int .i64 a2, .slice Av r2.length cv]) G5 1 (.slice Av r2.length cv) rfl
   have Z6 := below_set (j := 1) (v := .slice Av r2.length cv) (below_set (j := 0) (v := .int .i64 a2) HB.out (g := w.heap.size + 1) (Nat.le_add_right _ 1)) (Nat.le_add_right _ 1)
   have e0 := (blk_cell G6 0).trans rfl
   have e1 := (blk_cell G6 1).trans rfl
   exact bodyPost_ret (v := .tuple #[.agg #[.int .i64 a2, .slice Av r2.length cv], .bool true]) (by simp [results, Try.results36, go_sem, e0, e1]) rfl ⟨_, rfl, Kd.R_set (Kd.R_set HVS.out BF.out (by decide) 0 (.int .i64 a2)) G5 (by decide) 1 (.slice Av r2.length cv), Z6⟩
end Go.Proofs.Ytcilbmbgdcepgaa.P
