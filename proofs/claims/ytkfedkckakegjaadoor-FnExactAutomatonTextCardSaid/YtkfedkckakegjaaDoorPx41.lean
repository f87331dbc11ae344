/- The walk of impl.AutomatonText (printed by gen_au.py). -/
import Derived.Test.YtkfedkckakegjaaDoorAAut
import Derived.Test.YtkfedkckakegjaaDoorOwnW
import Derived.Test.YtkfedkckakegjaaDoorPx15
import Derived.Test.YtkfedkckakegjaaDoorPx40
import Derived.Test.YtkfedkckakegjaaDoorPx17
namespace Go.Proofs.YtkfedkckakegjaaDoor.P
open Go.RowKit YtkfedkckakegjaaDoorW.PrintWords YtkfedkckakegjaaDoorW.PrintLast YtkfedkckakegjaaDoorW.PrintMore Own A
set_option linter.unusedVariables false
set_option linter.unusedSimpArgs false
/-! ### impl_AutomatonText: function 9 -/
def AuFit (N : List (List Int)) (F : List Int) : Prop := N.length ≤ maxLen ∧ (∀ x ∈ N, x.length ≤ maxLen) ∧ F.length ≤ maxLen
instance (N : List (List Int)) (F : List Int) : Decidable (AuFit N F) := by unfold AuFit; infer_instance
def impl_AutomatonText.f (k : Nat) (a0_0 : Int) (l0_1 : List (List Int)) (l0_2 : List Int) : Option (ByteArray × Bool) := if AuFit l0_1 l0_2 then some (resTx a0_0 l0_1 l0_2) else none
theorem impl_AutomatonText.mono : ∀ a0 a1 a2 k, LeO (impl_AutomatonText.f k a0 a1 a2) (impl_AutomatonText.f (k + 1) a0 a1 a2) := fun _ _ _ _ _ h => h
set_option maxHeartbeats 8000000 in
set_option maxRecDepth 100000 in
theorem impl_AutomatonText.calls (k : Nat) (a0_0 : Int) (A0_1 : Option Addr) (c0_1 : Nat) (l0_1 : List (List Int)) (A0_2 : Option Addr) (c0_2 : Nat) (l0_2 : List Int) (r1 : ByteArray) (r2 : Bool) (w : World) (hr0_1 : Kd.C (Kd.slice 3 (Kd.int .i64)) w A0_1 l0_1.length l0_1) (hc0_1 : l0_1.length ≤ c0_1) (hr0_2 : Kd.C (Kd.int .i64) w A0_2 l0_2.length l0_2) (hc0_2 : l0_2.length ≤ c0_2) (h : impl_AutomatonText.f k a0_0 l0_1 l0_2 = some (r1, r2)) :
  Calls Tryd.prog 9 #[.agg #[.int .i64 a0_0, .slice A0_1 l0_1.length c0_1, .slice A0_2 l0_2.length c0_2]] w fun e w' => e = .returned (.tuple #[.string r1, .bool r2]) ∧ Below w.heap.size w w' := by
 have hu29 := Tryd.underlying29
 unfold impl_AutomatonText.f at h
 by_cases hk : AuFit l0_1 l0_2
 case neg => rw [if_neg hk] at h; simp at h
 rw [if_pos hk] at h
 replace h := Option.some.inj h
 unfold resTx at h
 have H1 := Aside0.mk hr0_1
 have HC1 := Aside0.mk hc0_1
 have H2 := Aside0.mk hr0_2
 have HC2 := Aside0.mk hc0_2
 have BA := Aside0.mk (blk_new w (.cells #[.int .i64 a0_0, .slice A0_1 l0_1.length c0_1, .slice A0_2 l0_2.length c0_2] 29))
 have HB := Aside0.mk (below_alloc (Below.refl w.heap.size w) (.cells #[.int .i64 a0_0, .slice A0_1 l0_1.length c0_1, .slice A0_2 l0_2.length c0_2] 29))
 obtain ⟨KA, hKA⟩ := isAu a0_0 l0_1 l0_2 hk.1 hk.2.1 hk.2.2
 have HA0 := hKA KA (Nat.le_refl _)
 have HF := Aside0.mk hk.2.2
 clear hr0_1 hc0_1 hr0_2 hc0_2 hk hKA
 go_enter Tryd.func9, Tryd.ntmps9
 by_cases hok : AuOk a0_0 l0_1 l0_2
 case neg =>
  rw [if_neg hok] at h
  rw [decide_eq_false hok] at HA0
  have HA := Aside0.mk HA0
  cases h
  clear HA0 hok
  go_wp2_with (first | (go_at_call 23; (with_reducible refine (impl_IsAutomaton.calls KA _ _ _ l0_1 _ _ l0_2 false _ (Kd.C_below H1.out HB.out) HC1.out (Kd.C_below H2.out HB.out) HC2.out HA.out).mono ?_); rintro e w2 ⟨rfl, hb⟩; have B2 := Aside0.mk (blk_below BA.out hb); have HB2 := Aside0.mk (below_step HB.out hb); clear hb HB BA; have x0 := (blk_cell B2.out 0).trans rfl; have x1 := (blk_cell B2.out 1).trans rfl; have x2 := (blk_cell B2.out 2).trans rfl) | fail)
  go_ret2
  exact ⟨rfl, HB2.out⟩
 rw [if_pos hok] at h
 rw [decide_eq_true hok] at HA0
 have HA := Aside0.mk HA0
 cases h
 have hn12 : l0_1.length ≤ 12 := by have := hok.2.1.2; omega
 have HK := Aside0.mk hok
 obtain ⟨Q, hQ⟩ : ∃ Q, Q = auGoI l0_2 l0_1 0 ⟨#[]⟩ := ⟨_, rfl⟩
 rw [← hQ]
 have HQ0 := Aside0.mk hQ
 clear HA0 hok hQ
 go_wp2_with (first | (go_at_call 23; (with_reducible refine (impl_IsAutomaton.calls KA _ _ _ l0_1 _ _ l0_2 true _ (Kd.C_below H1.out HB.out) HC1.out (Kd.C_below H2.out HB.out) HC2.out HA.out).mono ?_); rintro e w2 ⟨rfl, hb⟩; have B2 := Aside0.mk (blk_below BA.out hb); have HB2 := Aside0.mk (below_step HB.out hb); clear hb HB BA; have x0 := (blk_cell B2.out 0).trans rfl; have x1 := (blk_cell B2.out 1).trans rfl; have x2 := (blk_cell B2.out 2).trans rfl) | fail)
 go_loopw [4, 5, 6, 7, 14] (fun v4 v5 v6 v7 v14 wr => ∃ (i : Nat) (o : ByteArray), v4 = .string o ∧ v14 = .int .i64 i ∧ i ≤ l0_1.length ∧ o.size ≤ 100 * i ∧ Aside0 (auGoI l0_2 (l0_1.drop i) (i : Int) o = Q) ∧ Aside0 (wr.heap[w.heap.size]? = some (.cells #[.int .i64 a0_0, .slice A0_1 l0_1.length c0_1, .slice A0_2 l0_2.length c0_2] 29 (0, 0))) ∧ Aside0 (Below w.heap.size w wr)) (fun _ _ _ _ i _ => l0_1.length - (intOf i).toNat)
 case atStart => exact ⟨0, ⟨#[]⟩, rfl, rfl, Nat.zero_le _, Nat.le_refl _, ⟨HQ0.out.symm⟩, B2, HB2⟩
 case round =>
  clear B2 HB2 HQ0 x0 x1 x2
  obtain ⟨i, o, rfl, rfl, hi, hos, HQ, B, HB⟩ := hrel
  have x0 := (blk_cell B.out 0).trans rfl
  have x1 := (blk_cell B.out 1).trans rfl
  have x2 := (blk_cell B.out 2).trans rfl
  by_cases hil : i < l0_1.length
  ·have hd : decide ((i : Int) < (l0_1.length : Int)) = true := decide_eq_true (by omega)
   obtain ⟨ad, Ar, cr, ea, hx, hlr, hCr⟩ := at_L1 (Kd.C_below H1.out HB.out) (i : Int) (by omega) (by omega)
   subst ea
   rw [Int.toNat_natCast] at hx
   obtain ⟨row, hrow⟩ : ∃ row, row = rd_L1 l0_1 (i : Int) := ⟨_, rfl⟩
   rw [← hrow] at hx hlr hCr
   have hri : l0_1[i]? = some row := by rw [hrow]; unfold rd_L1; rw [Int.toNat_natCast, List.getD_eq_getElem?_getD, List.getElem?_eq_getElem hil]; rfl
   have hrk := HK.out.row row (List.mem_of_getElem? hri)
   have hdr : l0_1.drop i = row :: l0_1.drop (i + 1) := by rw [List.drop_eq_getElem_cons hil]; congr 1; rw [List.getElem?_eq_getElem hil] at hri; exact Option.some.inj hri
   have HCR := Aside0.mk hCr
   have HLR := Aside0.mk hlr
   have HRK := Aside0.mk hrk
   have hq := HQ.out
   rw [hdr] at hq
   unfold auGoI at hq
   obtain ⟨nu, hnu⟩ : ∃ nu, nu = joinB row := ⟨_, rfl⟩
   have hns := joinB_size row hrk.1 hrk.2.2
   rw [← hnu] at hq hns
   have HNU : Aside0 (impl_numbersText.f 0 row = some nu) := ⟨by unfold impl_numbersText.f; rw [if_pos (show NumFit row from ⟨⟨HRK.out.1, by have := HRK.out.2.1; omega⟩, HRK.out.2.2⟩), hnu]⟩
   obtain ⟨KC, hKC⟩ := contains l0_2 (i : Int) HF.out
   have HCO0 := hKC KC (Nat.le_refl _)
   have hns9 : nu.size ≤ 9 := by have := hrk.2.1; omega
   have q1 : 1 + 1 + nu.size ≤ 9223372036854775807 := by omega
   have q2 : 2 + nu.size ≤ 9223372036854775807 := by omega
   have q3 : 1 + 1 + nu.size + 1 ≤ 9223372036854775807 := by omega
   have q4 : 2 + nu.size + 1 ≤ 9223372036854775807 := by omega
   have q5 : o.size + (2 + nu.size + 1) ≤ 9223372036854775807 := by omega
   have q6 : o.size + (1 + 1 + nu.size + 1) ≤ 9223372036854775807 := by omega
   have q1b := eq_true q1
   have q2b := eq_true q2
   have q3b := eq_true q3
   have q4b := eq_true q4
   have q5b := eq_true q5
   have q6b := eq_true q6
   have q1c := eq_false (Nat.not_lt.2 q1)
   have q2c := eq_false (Nat.not_lt.2 q2)
   have q3c := eq_false (Nat.not_lt.2 q3)
   have q4c := eq_false (Nat.not_lt.2 q4)
   have q5c := eq_false (Nat.not_lt.2 q5)
   have q6c := eq_false (Nat.not_lt.2 q6)
   have HNS := Aside0.mk hns9
   have HQ1 := Aside0.mk hq
   clear hq hrow hri hrk hdr hCr hlr hnu hns hKC HQ hns9
   by_cases hm : (i : Int) ∈ l0_2
   ·have HCO : Aside0 (slices_Contains_int_int.f KC l0_2 (i : Int) = some true) := ⟨by have h_ := HCO0; rw [decide_eq_true hm] at h_; exact h_⟩
    have hsz : (o ++ ((((⟨#[43]⟩ : ByteArray) ++ spB) ++ nu) ++ nlB)).size ≤ 100 * (i + 1) := by have h9 := HNS.out; have e1 : spB.size = 1 := rfl; have e2 : nlB.size = 1 := rfl; have e3 : (⟨#[43]⟩ : ByteArray).size = 1 := rfl; simp only [ByteArray.size_append, e1, e2, e3]; omega
    have hq := HQ1.out
    unfold mkB at hq
    rw [if_pos hm] at hq
    have HQ := Aside0.mk hq
    clear hq HQ1 HCO0 hm
    go_wp2_with (first
     | (go_at_call 24; (with_reducible refine (slices_Contains_int_int.calls KC _ _ l0_2 _ true _ (Kd.C_below H2.out HB.out) HC2.out HCO.out).mono ?_); rintro e w3 ⟨rfl, ⟨nd, rfl⟩⟩)
     | (go_at_call 25; (with_reducible refine (impl_numbersText.calls 0 _ _ row nu _ (Kd.C_below HCR.out Own.bel) HLR.out HNU.out).mono ?_); rintro e w4 ⟨rfl, hb⟩; have B4 := Aside0.mk (blk_below (blk_below B.out Own.bel) hb); have HB4 := Aside0.mk (below_step (below_step HB.out Own.bel) hb); clear hb)
     | fail)
    go_roundw
    case rel => first | exact ⟨i + 1, _, rfl, by go_num, by omega, hsz, HQ, B4, HB4⟩ | ((repeat apply Exists.intro); exact ⟨⟨i + 1, _, rfl, by go_num, by omega, hsz, HQ, B4, HB4⟩, rfl⟩)
    case measure => simp [intOf]; omega
   ·have HCO : Aside0 (slices_Contains_int_int.f KC l0_2 (i : Int) = some false) := ⟨by have h_ := HCO0; rw [decide_eq_false hm] at h_; exact h_⟩
    have hsz : (o ++ ((((⟨#[45]⟩ : ByteArray) ++ spB) ++ nu) ++ nlB)).size ≤ 100 * (i + 1) := by have h9 := HNS.out; have e1 : spB.size = 1 := rfl; have e2 : nlB.size = 1 := rfl; have e3 : (⟨#[45]⟩ : ByteArray).size = 1 := rfl; simp only [ByteArray.size_append, e1, e2, e3]; omega
    have hq := HQ1.out
    unfold mkB at hq
    rw [if_neg hm] at hq
    have HQ := Aside0.mk hq
    clear hq HQ1 HCO0 hm
    go_wp2_with (first
     | (go_at_call 24; (with_reducible refine (slices_Contains_int_int.calls KC _ _ l0_2 _ false _ (Kd.C_below H2.out HB.out) HC2.out HCO.out).mono ?_); rintro e w3 ⟨rfl, ⟨nd, rfl⟩⟩)
     | (go_at_call 25; (with_reducible refine (impl_numbersText.calls 0 _ _ row nu _ (Kd.C_below HCR.out Own.bel) HLR.out HNU.out).mono ?_); rintro e w4 ⟨rfl, hb⟩; have B4 := Aside0.mk (blk_below (blk_below B.out Own.bel) hb); have HB4 := Aside0.mk (below_step (below_step HB.out Own.bel) hb); clear hb)
     | fail)
    go_roundw
    case rel => first | exact ⟨i + 1, _, rfl, by go_num, by omega, hsz, HQ, B4, HB4⟩ | ((repeat apply Exists.intro); exact ⟨⟨i + 1, _, rfl, by go_num, by omega, hsz, HQ, B4, HB4⟩, rfl⟩)
    case measure => simp [intOf]; omega
  ·obtain rfl : i = l0_1.length := by omega
   have hq := HQ.out
   rw [List.drop_length] at hq
   unfold auGoI at hq
   subst hq
   have hd : decide ((l0_1.length : Int) < (l0_1.length : Int)) = false := decide_eq_false (by omega)
   go_wp2
   go_ret2
   exact ⟨rfl, HB.out⟩
end Go.Proofs.YtkfedkckakegjaaDoor.P
