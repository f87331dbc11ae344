/- The walk of laws.markIntSS: the rows of a slice of slices of the call's own are marked one after the other. -/
import Derived.Test.YtadhbepoblllhaaZFnExactFirstWord0
namespace Go.Proofs.Ytadhbepoblllhaa.P
open Go.RowKit Go.Proofs.YtadhbepoblllhaaW.PrintWords Go.Proofs.YtadhbepoblllhaaW.PrintLast Go.Proofs.YtadhbepoblllhaaW.PrintMore
set_option linter.unusedVariables false
/-! ### laws_markIntSS: function 26 -/
/-- All rows marked in turn, each in k rounds. -/
def laws_markIntSS.f (k : Nat) : List (List Int) → Int → Option (Int × List (List Int))
  | [], m => some (m, [])
  | x :: xs, m => (laws_markIntS.f k x m).bind fun p => (laws_markIntSS.f k xs p.1).bind fun q => some (q.1, p.2 :: q.2)
theorem laws_markIntSS.mono : ∀ a0 a1 k, LeO (laws_markIntSS.f k a0 a1) (laws_markIntSS.f (k + 1) a0 a1) := by
  intro a0
  induction a0 with
  | nil => intro a1 k r h; exact h
  | cons x xs ih =>
    intro a1 k
    unfold laws_markIntSS.f
    exact LeO.bind (laws_markIntS.mono x a1 k) (fun p => LeO.bind (ih p.1 k) (fun _ => LeO.refl _))
set_option maxHeartbeats 2000000 in
set_option maxRecDepth 100000 in
theorem laws_markIntSS.calls (k : Nat) (P0_ : Nat → Prop) (u9000_ : Value) (l0 : List (List Int)) (a1 : Int) (r1 : Int) (r2 : List (List Int)) (w0 w : World) (hB : Below w0.heap.size w0 w)
    (ho0 : Kd.S (Kd.slice 3 (Kd.int .i64)) 23 w w0.heap.size P0_ u9000_ l0) (h : laws_markIntSS.f k l0 a1 = some (r1, r2)) :
    Calls Try.prog 26 #[u9000_, .int .i64 a1] w fun e w' => e = .returned (.int .i64 r1) ∧ Kd.S (Kd.slice 3 (Kd.int .i64)) 23 w' w0.heap.size P0_ u9000_ r2 ∧ Below w0.heap.size w0 w' ∧ Kept w w' (fun k_ => P0_ k_) := by
  have HO := Aside0.mk ho0
  have hln : l0.length ≤ 9223372036854775807 := by
    obtain ⟨_, _, _, _, hC⟩ := Kd.S_reads ho0
    exact hC.2.1
  have HB := Aside0.mk hB
  have HK := Aside0.mk (Kept.refl w (fun k_ => P0_ k_))
  have H := Aside0.mk h
  obtain ⟨A0, c0, eo⟩ := Kd.S_slice ho0
  subst eo
  clear ho0 hB h
  go_enter Try.func26, Try.ntmps26
  go_wp2_with fail
  go_loopw [1, 5] (fun m i wr => ∃ (j : Nat) (mj : Int) (rows rest : List (List Int)), m = .int .i64 mj ∧ i = .int .i64 j ∧ j ≤ l0.length ∧ Aside0 (rows.length = l0.length) ∧ Aside0 (laws_markIntSS.f k (rows.drop j) mj = some (r1, rest)) ∧ Aside0 (rows.take j ++ rest = r2) ∧
    Aside0 (Kd.S (Kd.slice 3 (Kd.int .i64)) 23 wr w0.heap.size P0_ (.slice A0 l0.length c0) rows) ∧ Aside0 (Below w0.heap.size w0 wr) ∧ Aside0 (Kept w wr (fun k_ => P0_ k_))) (fun _ i _ => l0.length - (intOf i).toNat)
  case atStart => exact ⟨0, a1, l0, r2, rfl, rfl, Nat.zero_le _, ⟨rfl⟩, ⟨by simpa using H.out⟩, ⟨by simp⟩, HO, HB, HK⟩
  case round =>
    clear HO HB HK H
    obtain ⟨j, mj, rows, rest, rfl, rfl, hj, HL, H, HE, HO, HB, HK⟩ := hrel
    by_cases hlt : j < l0.length
    · obtain ⟨g, cp, hv, hg1, hg2, _⟩ := Kd.S_form HO.out (by rw [HL.out]; omega)
      injection hv with hA hn hc
      subst hA hc
      obtain ⟨oki, c, hcl, hM, hcc, hoki, hH⟩ := Kd.S_lend HO.out [] (j : Int) (by omega) (by omega)
      obtain ⟨v, rfl, hR⟩ := hM
      have hcell := hcc 0 v rfl
      simp only [show (Kd.slice 3 (Kd.int .i64)).sz = 1 from rfl, Int.toNat_natCast, Nat.mul_one, Nat.add_zero] at hcell hR
      have hx : rows.drop j = rows.getD j [] :: rows.drop (j + 1) := by
        rw [List.drop_eq_getElem_cons (by rw [HL.out]; omega), List.getD_eq_getElem?_getD, List.getElem?_eq_getElem (by rw [HL.out]; omega)]
        rfl
      have h := H.out
      rw [hx] at h
      unfold laws_markIntSS.f at h
      obtain ⟨⟨m1, x1⟩, h1, h⟩ := Option.bind_eq_some_iff.mp h
      obtain ⟨⟨m2, rest1⟩, h2, h⟩ := Option.bind_eq_some_iff.mp h
      simp only [Option.some.injEq, Prod.mk.injEq] at h
      obtain ⟨rfl, rfl⟩ := h
      have H1 := Aside0.mk h1
      have H2 := Aside0.mk h2
      have HR := Aside0.mk hR
      have HH := Aside0.mk hH
      have H0 := Aside0.mk hR.1
      have HI := Aside0.mk hoki
      obtain ⟨Av, cv, eav⟩ := Kd.R_slice hR
      subst eav
      clear h1 h2 hR hH hoki hcc hcl hx H hg1 hg2 hn
      go_wp2_with fail
      refine (laws_markIntS.calls k oki _ _ _ _ _ w0 _ HB.out HR.out H1.out).mono ?_
      rintro e w2 ⟨rfl, hR2, hB2, hK2⟩
      have HS2 : Aside0 (Kd.S (Kd.slice 3 (Kd.int .i64)) 23 w2 w0.heap.size P0_ (.slice (some ⟨g, 0, none⟩) l0.length c0) (rows.set j x1)) := by
        have := Kd.H_back (Kd.H_kept HH.out hK2 (fun k _ h3 h4 => h3 h4)) (x' := x1) (okp := oki) ⟨_, rfl, ⟨H0.out, hR2.2⟩⟩ (fun k hk => hk)
        rw [Int.toNat_natCast] at this
        exact ⟨this⟩
      have HB2 := Aside0.mk hB2
      have HK2 : Aside0 (Kept w w2 (fun k_ => P0_ k_)) := ⟨HK.out.then_ hK2 (fun k hk => .inl (HI.out k hk).1)⟩
      have HE2 : Aside0 ((rows.set j x1).take (j + 1) ++ rest1 = rows.take j ++ x1 :: rest1) := ⟨by
        rw [List.take_succ_eq_append_getElem (by rw [List.length_set, HL.out]; omega), List.getElem_set_self, List.take_set_of_le (Nat.le_refl _), List.append_assoc]
        rfl⟩
      have HD2 : Aside0 ((rows.set j x1).drop (j + 1) = rows.drop (j + 1)) := ⟨by rw [List.drop_set_of_lt (by omega)]⟩
      clear hR2 hB2 hK2 HH HR HO HB HK HI hcell
      go_wp2_with fail
      go_roundw
      case rel => exact ⟨j + 1, m1, rows.set j x1, rest1, rfl, by go_num, by omega, ⟨by rw [List.length_set, HL.out]⟩, ⟨by rw [HD2.out]; exact H2.out⟩, ⟨by rw [HE2.out]; exact HE.out⟩, HS2, HB2, HK2⟩
      case measure => simp [intOf]; omega
    · obtain rfl : j = l0.length := by omega
      have hd : rows.drop l0.length = [] := by rw [List.drop_eq_nil_iff, HL.out]; omega
      have h := H.out
      rw [hd] at h
      simp only [laws_markIntSS.f, Option.some.injEq, Prod.mk.injEq] at h
      obtain ⟨rfl, rfl⟩ := h
      have ht : rows.take l0.length = rows := List.take_of_length_le (by rw [HL.out]; omega)
      have HE2 : Aside0 (rows = r2) := ⟨by rw [← HE.out, ht, List.append_nil]⟩
      clear hd ht
      go_wp2_with fail
      go_ret
      exact ⟨rfl, by rw [← HE2.out]; exact HO.out, HB.out, HK.out⟩
end Go.Proofs.Ytadhbepoblllhaa.P
