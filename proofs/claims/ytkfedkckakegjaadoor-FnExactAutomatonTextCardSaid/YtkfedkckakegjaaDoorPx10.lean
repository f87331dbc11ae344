/- The walk of spec.auText (printed by gen_au.py). -/
import Derived.Test.YtkfedkckakegjaaDoorANum
import Derived.Test.YtkfedkckakegjaaDoorOwnW
import Derived.Test.YtkfedkckakegjaaDoorPx8
import Derived.Test.YtkfedkckakegjaaDoorPx9
namespace Go.Proofs.YtkfedkckakegjaaDoor.P
open Go.RowKit YtkfedkckakegjaaDoorW.PrintWords YtkfedkckakegjaaDoorW.PrintLast YtkfedkckakegjaaDoorW.PrintMore Own A
set_option linter.unusedVariables false
set_option linter.unusedSimpArgs false
/-! ### spec_auText: function 20 -/
def TxFit (L : Int) (N : List (List Int)) (F : List Int) : Prop := AuOk L N F ∧ F.length ≤ maxLen
instance (L : Int) (N : List (List Int)) (F : List Int) : Decidable (TxFit L N F) := by unfold TxFit; infer_instance
def spec_auText.f (k : Nat) (a0_0 : Int) (l0_1 : List (List Int)) (l0_2 : List Int) : Option ByteArray := if TxFit a0_0 l0_1 l0_2 then some (auGoS l0_2 l0_1 0 ⟨#[]⟩) else none
theorem spec_auText.mono : ∀ a0 a1 a2 k, LeO (spec_auText.f k a0 a1 a2) (spec_auText.f (k + 1) a0 a1 a2) := fun _ _ _ _ _ h => h
set_option maxHeartbeats 8000000 in
set_option maxRecDepth 100000 in
theorem spec_auText.calls (k : Nat) (a0_0 : Int) (A0_1 : Option Addr) (c0_1 : Nat) (l0_1 : List (List Int)) (A0_2 : Option Addr) (c0_2 : Nat) (l0_2 : List Int) (r : ByteArray) (w : World) (hr0_1 : Kd.C (Kd.slice 3 (Kd.int .i64)) w A0_1 l0_1.length l0_1) (hc0_1 : l0_1.length ≤ c0_1) (hr0_2 : Kd.C (Kd.int .i64) w A0_2 l0_2.length l0_2) (hc0_2 : l0_2.length ≤ c0_2) (h : spec_auText.f k a0_0 l0_1 l0_2 = some r) :
  Calls Tryd.prog 20 #[.agg #[.int .i64 a0_0, .slice A0_1 l0_1.length c0_1, .slice A0_2 l0_2.length c0_2]] w fun e w' => e = .returned (.string r) ∧ Below w.heap.size w w' := by
 have hu29 := Tryd.underlying29
 unfold spec_auText.f at h
 by_cases hk : TxFit a0_0 l0_1 l0_2
 case neg => rw [if_neg hk] at h; simp at h
 rw [if_pos hk] at h
 replace h := Option.some.inj h
 have H1 := Aside0.mk hr0_1
 have HC1 := Aside0.mk hc0_1
 have H2 := Aside0.mk hr0_2
 have HC2 := Aside0.mk hc0_2
 have BA := Aside0.mk (blk_new w (.cells #[.int .i64 a0_0, .slice A0_1 l0_1.length c0_1, .slice A0_2 l0_2.length c0_2] 29))
 have HB := Aside0.mk (below_alloc (Below.refl w.heap.size w) (.cells #[.int .i64 a0_0, .slice A0_1 l0_1.length c0_1, .slice A0_2 l0_2.length c0_2] 29))
 have hok := hk.1
 have HF := Aside0.mk hk.2
 have hn12 : l0_1.length ≤ 12 := by have := hok.2.1.2; omega
 have HK := Aside0.mk hok
 have HQ0 := Aside0.mk h
 clear hok hk h hr0_1 hc0_1 hr0_2 hc0_2
 go_enter Tryd.func20, Tryd.ntmps20
 have x0 := (blk_cell BA.out 0).trans rfl
 have x1 := (blk_cell BA.out 1).trans rfl
 have x2 := (blk_cell BA.out 2).trans rfl
 go_wp2
 go_loopw [3, 4, 5, 7, 11] (fun v3 v4 v5 v7 v11 wr => ∃ (i : Nat) (o : ByteArray), v3 = .string o ∧ v11 = .int .i64 i ∧ i ≤ l0_1.length ∧ o.size ≤ 100 * i ∧ Aside0 (auGoS l0_2 (l0_1.drop i) (i : Int) o = r) ∧ Aside0 (wr.heap[w.heap.size]? = some (.cells #[.int .i64 a0_0, .slice A0_1 l0_1.length c0_1, .slice A0_2 l0_2.length c0_2] 29 (0, 0))) ∧ Aside0 (Below w.heap.size w wr)) (fun _ _ _ _ i _ => l0_1.length - (intOf i).toNat)
 case atStart => exact ⟨0, ⟨#[]⟩, rfl, rfl, Nat.zero_le _, Nat.le_refl _, HQ0, BA, HB⟩
 case round =>
  clear BA HB HQ0 x0 x1 x2
  obtain ⟨i, o, rfl, rfl, hi, hos, HQ, B, HB⟩ := hrel
  have x0 := (blk_cell B.out 0).trans rfl
  have x1 := (blk_cell B.out 1).trans rfl
  have x2 := (blk_cell B.out 2).trans rfl
  by_cases hil : i < l0_1.length
  ·have hd : decide ((i : Int) < (l0_1.length : Int)) = true := decide_eq_true (by omega)
   obtain ⟨ad, Ar, cr, ea, hx, hlr, hCr⟩ := at_L1 (Kd.C_below H1.out HB.out) (i : Int) (by omega) (by omega)
   subst ea
   rw [Int.toNat_natCast] at hx
   obtain ⟨row, hrow⟩ : ∃ row, row = rd_L1 l0_1 (i : Int) := ⟨_, rfl⟩
   rw [← hrow] at hx hlr hCr
   have hri : l0_1[i]? = some row := by rw [hrow]; unfold rd_L1; rw [Int.toNat_natCast, List.getD_eq_getElem?_getD, List.getElem?_eq_getElem hil]; rfl
   have hrk := HK.out.row row (List.mem_of_getElem? hri)
   have hdr : l0_1.drop i = row :: l0_1.drop (i + 1) := by rw [List.drop_eq_getElem_cons hil]; congr 1; rw [List.getElem?_eq_getElem hil] at hri; exact Option.some.inj hri
   have HCR := Aside0.mk hCr
   have HLR := Aside0.mk hlr
   have HRK := Aside0.mk hrk
   have hq := HQ.out
   rw [hdr] at hq
   unfold auGoS at hq
   obtain ⟨KC, hKC⟩ := l1Has l0_2 (i : Int) HF.out
   have HCO0 := hKC KC (Nat.le_refl _)
   have hr3 := hrk.2.1
   have q1 : o.size + 1 ≤ 9223372036854775807 := by omega
   have q1b := eq_true q1
   have q1c := eq_false (Nat.not_lt.2 q1)
   have HQ1 := Aside0.mk hq
   clear hq hrow hri hrk hdr hCr hlr hKC HQ
   by_cases hm : (i : Int) ∈ l0_2
   ·have HCO : Aside0 (spec_l1Has.f KC l0_2 (i : Int) = some true) := ⟨by have h_ := HCO0; rw [decide_eq_true hm] at h_; exact h_⟩
    have hq := HQ1.out
    unfold mkB at hq
    rw [if_pos hm] at hq
    obtain ⟨P0, hP⟩ : ∃ P0, P0 = inGo row (o ++ (⟨#[43]⟩ : ByteArray)) := ⟨_, rfl⟩
    rw [← hP] at hq
    have HQ := Aside0.mk hq
    have HP := Aside0.mk hP
    clear hq HQ1 HCO0 hm hP
    go_wp2_with (first | (go_at_call 42; (with_reducible refine (spec_l1Has.calls KC _ _ l0_2 _ true _ (Kd.C_below H2.out HB.out) HC2.out HCO.out).mono ?_); rintro e w3 ⟨rfl, ⟨nd, rfl⟩⟩; have B3 := Aside0.mk (blk_below B.out (pw_below_drewN (Below.refl _ _) nd)); have HB3 := Aside0.mk (below_step HB.out (pw_below_drewN (Below.refl _ _) nd)); have HCR3 := Aside0.mk (Kd.C_below HCR.out (pw_below_drewN (Below.refl _ _) nd)); clear B HB HCR x0 x1 x2; generalize wr.drewN nd = ws at B3 HB3 HCR3 ⊢) | fail)
    go_loopw [3, 7, 26] (fun v3 v7 v26 wt => ∃ (j : Nat) (o2 : ByteArray), v3 = .string o2 ∧ v26 = .int .i64 j ∧ j ≤ row.length ∧ o2.size ≤ o.size + 1 + 10 * j ∧ Aside0 (inGo (row.drop j) o2 = P0) ∧ Aside0 (Below ws.heap.size ws wt)) (fun _ _ j _ => row.length - (intOf j).toNat)
    case atStart => exact ⟨0, _, rfl, rfl, Nat.zero_le _, by simp only [ByteArray.size_append]; exact Nat.le_refl _, ⟨HP.out.symm⟩, ⟨Below.refl _ _⟩⟩
    case round =>
     obtain ⟨j, o2, rfl, rfl, hj, ho2, HP2, HB4⟩ := hrel
     by_cases hjl : j < row.length
     ·have hdj : decide ((j : Int) < (row.length : Int)) = true := decide_eq_true (by omega)
      obtain ⟨ad2, ea2, g0⟩ := Kd.at_int (Kd.C_below HCR3.out HB4.out) (j : Int) (by omega) (by omega)
      subst ea2
      rw [Int.toNat_natCast] at g0
      obtain ⟨x, hx⟩ : ∃ x, x = rd row (j : Int) := ⟨_, rfl⟩
      rw [← hx] at g0
      have hxi : row[j]? = some x := by rw [hx]; unfold rd; rw [Int.toNat_natCast, List.getD_eq_getElem?_getD, List.getElem?_eq_getElem hjl]; rfl
      have hxb := HRK.out.2.2 x (List.mem_of_getElem? hxi)
      obtain ⟨KN, hKN⟩ := l1Num x hxb.1 hxb.2
      have HN := Aside0.mk (hKN KN (Nat.le_refl _))
      have hsx := itB_size x hxb.1 hxb.2
      have hp := HP2.out
      have hdx : row.drop j = x :: row.drop (j + 1) := by rw [List.drop_eq_getElem_cons hjl]; congr 1; rw [List.getElem?_eq_getElem hjl] at hxi; exact Option.some.inj hxi
      rw [hdx] at hp
      unfold inGo at hp
      have HP3 := Aside0.mk hp
      have hsz : (o2 ++ (spB ++ itB x)).size ≤ o.size + 1 + 10 * (j + 1) := by have e1 : spB.size = 1 := rfl; simp only [ByteArray.size_append, e1]; omega
      have p1 : 1 + (itB x).size ≤ 9223372036854775807 := by omega
      have p2 : o2.size + (1 + (itB x).size) ≤ 9223372036854775807 := by omega
      have p1b := eq_true p1
      have p1c := eq_false (Nat.not_lt.2 p1)
      have p2b := eq_true p2
      have p2c := eq_false (Nat.not_lt.2 p2)
      clear hp hx hxi hxb hKN hdx HP2
      go_wp2_with (first | (go_at_call 43; (with_reducible refine (spec_l1Num.calls KN _ (itB x) _ HN.out).mono ?_); rintro e w4 ⟨rfl, hb⟩; have HB5 := Aside0.mk (below_step HB4.out hb); clear hb) | fail)
      go_wp2_with (first | (go_at_call 43; (with_reducible refine (spec_l1Num.calls KN _ (itB x) _ HN.out).mono ?_); rintro e w4 ⟨rfl, hb⟩; have HB5 := Aside0.mk (below_step HB4.out hb); clear hb) | fail)
      go_roundw
      case rel => first | exact ⟨j + 1, _, rfl, by go_num, by omega, hsz, HP3, HB5⟩ | ((repeat apply Exists.intro); exact ⟨⟨j + 1, _, rfl, by go_num, by omega, hsz, HP3, HB5⟩, rfl⟩)
      case measure => simp [intOf]; omega
     ·obtain rfl : j = row.length := by omega
      have hp := HP2.out
      rw [List.drop_length] at hp
      unfold inGo at hp
      have HP3 := Aside0.mk hp
      have hq := HQ.out
      rw [← hp] at hq
      have HQ2 := Aside0.mk hq
      have hdj : decide ((row.length : Int) < (row.length : Int)) = false := decide_eq_false (by omega)
      have hsz : (o2 ++ nlB).size ≤ 100 * (i + 1) := by have e1 : nlB.size = 1 := rfl; simp only [ByteArray.size_append, e1]; omega
      have p1 : o2.size + 1 ≤ 9223372036854775807 := by omega
      have p1b := eq_true p1
      have p1c := eq_false (Nat.not_lt.2 p1)
      clear hp hq HQ HP2
      have B4 := Aside0.mk (blk_below B3.out HB4.out)
      have HB6 := Aside0.mk (below_step HB3.out HB4.out)
      go_wp2
      go_roundw
      case rel => first | exact ⟨i + 1, _, rfl, by go_num, by omega, hsz, HQ2, B4, HB6⟩ | ((repeat apply Exists.intro); exact ⟨⟨i + 1, _, rfl, by go_num, by omega, hsz, HQ2, B4, HB6⟩, rfl⟩)
      case measure => simp [intOf]; omega
   ·have HCO : Aside0 (spec_l1Has.f KC l0_2 (i : Int) = some false) := ⟨by have h_ := HCO0; rw [decide_eq_false hm] at h_; exact h_⟩
    have hq := HQ1.out
    unfold mkB at hq
    rw [if_neg hm] at hq
    obtain ⟨P0, hP⟩ : ∃ P0, P0 = inGo row (o ++ (⟨#[45]⟩ : ByteArray)) := ⟨_, rfl⟩
    rw [← hP] at hq
    have HQ := Aside0.mk hq
    have HP := Aside0.mk hP
    clear hq HQ1 HCO0 hm hP
    go_wp2_with (first | (go_at_call 42; (with_reducible refine (spec_l1Has.calls KC _ _ l0_2 _ false _ (Kd.C_below H2.out HB.out) HC2.out HCO.out).mono ?_); rintro e w3 ⟨rfl, ⟨nd, rfl⟩⟩; have B3 := Aside0.mk (blk_below B.out (pw_below_drewN (Below.refl _ _) nd)); have HB3 := Aside0.mk (below_step HB.out (pw_below_drewN (Below.refl _ _) nd)); have HCR3 := Aside0.mk (Kd.C_below HCR.out (pw_below_drewN (Below.refl _ _) nd)); clear B HB HCR x0 x1 x2; generalize wr.drewN nd = ws at B3 HB3 HCR3 ⊢) | fail)
    go_loopw [3, 7, 26] (fun v3 v7 v26 wt => ∃ (j : Nat) (o2 : ByteArray), v3 = .string o2 ∧ v26 = .int .i64 j ∧ j ≤ row.length ∧ o2.size ≤ o.size + 1 + 10 * j ∧ Aside0 (inGo (row.drop j) o2 = P0) ∧ Aside0 (Below ws.heap.size ws wt)) (fun _ _ j _ => row.length - (intOf j).toNat)
    case atStart => exact ⟨0, _, rfl, rfl, Nat.zero_le _, by simp only [ByteArray.size_append]; exact Nat.le_refl _, ⟨HP.out.symm⟩, ⟨Below.refl _ _⟩⟩
    case round =>
     obtain ⟨j, o2, rfl, rfl, hj, ho2, HP2, HB4⟩ := hrel
     by_cases hjl : j < row.length
     ·have hdj : decide ((j : Int) < (row.length : Int)) = true := decide_eq_true (by omega)
      obtain ⟨ad2, ea2, g0⟩ := Kd.at_int (Kd.C_below HCR3.out HB4.out) (j : Int) (by omega) (by omega)
      subst ea2
      rw [Int.toNat_natCast] at g0
      obtain ⟨x, hx⟩ : ∃ x, x = rd row (j : Int) := ⟨_, rfl⟩
      rw [← hx] at g0
      have hxi : row[j]? = some x := by rw [hx]; unfold rd; rw [Int.toNat_natCast, List.getD_eq_getElem?_getD, List.getElem?_eq_getElem hjl]; rfl
      have hxb := HRK.out.2.2 x (List.mem_of_getElem? hxi)
      obtain ⟨KN, hKN⟩ := l1Num x hxb.1 hxb.2
      have HN := Aside0.mk (hKN KN (Nat.le_refl _))
      have hsx := itB_size x hxb.1 hxb.2
      have hp := HP2.out
      have hdx : row.drop j = x :: row.drop (j + 1) := by rw [List.drop_eq_getElem_cons hjl]; congr 1; rw [List.getElem?_eq_getElem hjl] at hxi; exact Option.some.inj hxi
      rw [hdx] at hp
      unfold inGo at hp
      have HP3 := Aside0.mk hp
      have hsz : (o2 ++ (spB ++ itB x)).size ≤ o.size + 1 + 10 * (j + 1) := by have e1 : spB.size = 1 := rfl; simp only [ByteArray.size_append, e1]; omega
      have p1 : 1 + (itB x).size ≤ 9223372036854775807 := by omega
      have p2 : o2.size + (1 + (itB x).size) ≤ 9223372036854775807 := by omega
      have p1b := eq_true p1
      have p1c := eq_false (Nat.not_lt.2 p1)
      have p2b := eq_true p2
      have p2c := eq_false (Nat.not_lt.2 p2)
      clear hp hx hxi hxb hKN hdx HP2
      go_wp2_with (first | (go_at_call 43; (with_reducible refine (spec_l1Num.calls KN _ (itB x) _ HN.out).mono ?_); rintro e w4 ⟨rfl, hb⟩; have HB5 := Aside0.mk (below_step HB4.out hb); clear hb) | fail)
      go_wp2_with (first | (go_at_call 43; (with_reducible refine (spec_l1Num.calls KN _ (itB x) _ HN.out).mono ?_); rintro e w4 ⟨rfl, hb⟩; have HB5 := Aside0.mk (below_step HB4.out hb); clear hb) | fail)
      go_roundw
      case rel => first | exact ⟨j + 1, _, rfl, by go_num, by omega, hsz, HP3, HB5⟩ | ((repeat apply Exists.intro); exact ⟨⟨j + 1, _, rfl, by go_num, by omega, hsz, HP3, HB5⟩, rfl⟩)
      case measure => simp [intOf]; omega
     ·obtain rfl : j = row.length := by omega
      have hp := HP2.out
      rw [List.drop_length] at hp
      unfold inGo at hp
      have HP3 := Aside0.mk hp
      have hq := HQ.out
      rw [← hp] at hq
      have HQ2 := Aside0.mk hq
      have hdj : decide ((row.length : Int) < (row.length : Int)) = false := decide_eq_false (by omega)
      have hsz : (o2 ++ nlB).size ≤ 100 * (i + 1) := by have e1 : nlB.size = 1 := rfl; simp only [ByteArray.size_append, e1]; omega
      have p1 : o2.size + 1 ≤ 9223372036854775807 := by omega
      have p1b := eq_true p1
      have p1c := eq_false (Nat.not_lt.2 p1)
      clear hp hq HQ HP2
      have B4 := Aside0.mk (blk_below B3.out HB4.out)
      have HB6 := Aside0.mk (below_step HB3.out HB4.out)
      go_wp2
      go_roundw
      case rel => first | exact ⟨i + 1, _, rfl, by go_num, by omega, hsz, HQ2, B4, HB6⟩ | ((repeat apply Exists.intro); exact ⟨⟨i + 1, _, rfl, by go_num, by omega, hsz, HQ2, B4, HB6⟩, rfl⟩)
      case measure => simp [intOf]; omega
  ·obtain rfl : i = l0_1.length := by omega
   have hq := HQ.out
   rw [List.drop_length] at hq
   unfold auGoS at hq
   subst hq
   have hd : decide ((l0_1.length : Int) < (l0_1.length : Int)) = false := decide_eq_false (by omega)
   go_wp2
   go_ret
   exact ⟨rfl, HB.out⟩
end Go.Proofs.YtkfedkckakegjaaDoor.P
