/- The walk of the reference's LongestAccepted: the last true one of the lengths, but for the very last. -/
import Derived.Test.YtkfedkckakegjaaYFnExactLongestAcceptedPx13
import Derived.Test.YtkfedkckakegjaaYFnExactLongestAcceptedPx48
import Derived.Test.YtkfedkckakegjaaALast
namespace Go.Proofs.Ytkfedkckakegjaa.P
open Go.RowKit Go.Proofs.YtkfedkckakegjaaW.PrintWords Go.Proofs.YtkfedkckakegjaaW.PrintLast Go.Proofs.YtkfedkckakegjaaW.PrintMore Go.Proofs.Ytkfedkckakegjaa.A
set_option linter.unusedVariables false
set_option linter.unusedSimpArgs false
/-! ### spec_LongestAccepted: function 38 -/
def spec_LongestAccepted.f (k : Nat) (L : Int) (N : List (List Int)) (F : List Int) : Option (Int × Bool) := (spec_auGood.f k L N F).bind fun t => if t = true then (spec_eqLengths.f k L N F).bind fun l => (if 1 ≤ l.length ∧ l.length ≤ 1000 then some (lastB l) else none) else some (0, false)
theorem spec_LongestAccepted.mono : ∀ a0 a1 a2 k, LeO (spec_LongestAccepted.f k a0 a1 a2) (spec_LongestAccepted.f (k + 1) a0 a1 a2) := by
  intro a0 a1 a2 k
  unfold spec_LongestAccepted.f
  exact LeO.bind (spec_auGood.mono _ _ _ _) (fun _ => LeO.ite (LeO.bind (spec_eqLengths.mono _ _ _ _) (fun _ => LeO.refl _)) (LeO.refl _))
set_option maxHeartbeats 4000000 in
set_option maxRecDepth 100000 in
theorem spec_LongestAccepted.calls (k : Nat) (a0_0 : Int) (A0_1 : Option Addr) (c0_1 : Nat) (l0_1 : List (List Int)) (A0_2 : Option Addr) (c0_2 : Nat) (l0_2 : List Int) (r1 : Int) (r2 : Bool) (w : World) (hr0_1 : Kd.C (Kd.slice 3 (Kd.int .i64)) w A0_1 l0_1.length l0_1) (hc0_1 : l0_1.length ≤ c0_1) (hr0_2 : Kd.C (Kd.int .i64) w A0_2 l0_2.length l0_2) (hc0_2 : l0_2.length ≤ c0_2) (h : spec_LongestAccepted.f k a0_0 l0_1 l0_2 = some (r1, r2)) :
    Calls Try.prog 38 #[.agg #[.int .i64 a0_0, .slice A0_1 l0_1.length c0_1, .slice A0_2 l0_2.length c0_2]] w fun e w' => e = .returned (.tuple #[.int .i64 r1, .bool r2]) ∧ Below w.heap.size w w' := by
  have hu29 := Try.underlying29
  unfold spec_LongestAccepted.f at h
  obtain ⟨t, ht, h⟩ := Option.bind_eq_some_iff.mp h
  have H1 := Aside0.mk hr0_1
  have H2 := Aside0.mk hr0_2
  have HC1 := Aside0.mk hc0_1
  have HC2 := Aside0.mk hc0_2
  have HB0 : Aside0 (Below w.heap.size w (w.alloc (.cells #[.int .i64 a0_0, .slice A0_1 l0_1.length c0_1, .slice A0_2 l0_2.length c0_2] 29))) := ⟨below_alloc (Below.refl _ _) _⟩
  have BK0 := Aside0.mk (blk_new w (.cells #[.int .i64 a0_0, .slice A0_1 l0_1.length c0_1, .slice A0_2 l0_2.length c0_2] 29))
  clear hr0_1 hc0_1 hr0_2 hc0_2
  cases t with
  | false =>
    rw [if_neg (by decide)] at h
    simp only [Option.some.injEq, Prod.mk.injEq] at h
    obtain ⟨rfl, rfl⟩ := h
    have HT := Aside0.mk ht
    clear ht
    go_enter Try.func38, Try.ntmps38
    go_wp2_with fail
    refine (spec_auGood.calls k _ _ _ _ _ _ _ false _ (Kd.C_below H1.out HB0.out) HC1.out (Kd.C_below H2.out HB0.out) HC2.out HT.out).mono ?_
    rintro e w1 ⟨rfl, hb⟩
    have HB1 := Aside0.mk (below_step HB0.out hb)
    clear hb HB0 BK0 HT
    go_wp2_with fail
    go_ret2
    exact ⟨rfl, HB1.out⟩
  | true =>
    rw [if_pos rfl] at h
    obtain ⟨l, hl, h⟩ := Option.bind_eq_some_iff.mp h
    by_cases hb : 1 ≤ l.length ∧ l.length ≤ 1000
    case neg => rw [if_neg hb] at h; simp at h
    rw [if_pos hb] at h
    replace h := Option.some.inj h
    obtain ⟨n1, hn1⟩ : ∃ n1, l.length = n1 + 1 := ⟨l.length - 1, by omega⟩
    have hn1000 : n1 ≤ 999 := by omega
    unfold lastB at h
    rw [hn1, Nat.add_sub_cancel] at h
    have HT := Aside0.mk ht
    have HL := Aside0.mk hl
    have H := Aside0.mk h
    have HN := Aside0.mk hn1
    clear ht hl h hn1 hb
    go_enter Try.func38, Try.ntmps38
    go_wp2_with fail
    refine (spec_auGood.calls k _ _ _ _ _ _ _ true _ (Kd.C_below H1.out HB0.out) HC1.out (Kd.C_below H2.out HB0.out) HC2.out HT.out).mono ?_
    rintro e w1 ⟨rfl, hb⟩
    have HB1 := Aside0.mk (below_step HB0.out hb)
    have BK1 := Aside0.mk (blk_below BK0.out hb)
    have z0 : w1.cell? ⟨w.heap.size, 0, none⟩ = some (.int .i64 a0_0) := (blk_cell BK1.out 0).trans rfl
    have z1 : w1.cell? ⟨w.heap.size, 1, none⟩ = some (.slice A0_1 l0_1.length c0_1) := (blk_cell BK1.out 1).trans rfl
    have z2 : w1.cell? ⟨w.heap.size, 2, none⟩ = some (.slice A0_2 l0_2.length c0_2) := (blk_cell BK1.out 2).trans rfl
    clear hb HB0 BK0 HT
    go_wp2_with fail
    refine (spec_eqLengths.calls k _ _ _ _ _ _ _ l _ (Kd.C_below H1.out HB1.out) HC1.out (Kd.C_below H2.out HB1.out) HC2.out HL.out).mono ?_
    rintro e w2 ⟨v, rfl, hR, hb⟩
    have HB2 := Aside0.mk (below_step HB1.out hb)
    obtain ⟨A4, c4, e4⟩ := Kd.R_slice hR
    rw [HN.out] at e4
    subst e4
    obtain ⟨_, hcap, hC⟩ := Kd.R_reads' hR
    obtain ⟨ad, ea, _⟩ := Kd.at_bool hC (0 : Int) (by omega) (by have := HN.out; omega)
    subst ea
    have HCR := Aside0.mk hC
    obtain ⟨hz1, hz2⟩ := lastGo_bd (l.take n1) 0 (-1) (by omega) (by omega) (by omega)
    rw [List.length_take_of_le (by have := HN.out; omega)] at hz2
    obtain ⟨z, hz⟩ : ∃ z, z = lastGo (l.take n1) 0 (-1) := ⟨_, rfl⟩
    rw [← hz] at hz1 hz2
    have hH := H.out
    rw [← hz] at hH
    obtain ⟨bl, hbl⟩ : ∃ b, b = l.getD n1 false := ⟨_, rfl⟩
    rw [← hbl] at hH
    have hlast : w2.cell? (ad.add n1) = some (.bool bl) := by
      obtain ⟨ad', e', hx⟩ := Kd.at_bool hC (n1 : Int) (by omega) (by have := HN.out; omega)
      cases e'
      rw [Int.toNat_natCast] at hx
      rw [hbl]
      simpa [rdOf] using hx
    have hlast2 : w2.cell? (ad.add (l.length - 1)) = some (.bool bl) := by rw [HN.out, Nat.add_sub_cancel]; exact hlast
    have HH := Aside0.mk hH
    have HZ := Aside0.mk hz
    have hcap2 : n1 + 1 ≤ c4 := hcap
    clear hb hR hC HB1 BK1 z0 z1 z2 hz hbl hH hcap
    go_wp2_with fail
    go_loop [5, 19] (fun v5 v19 => ∃ (i : Nat) (acc : Int), i ≤ n1 ∧ v19 = .int .i64 i ∧ v5 = .int .i64 acc ∧ -1 ≤ acc ∧ acc ≤ 1000 ∧ Aside0 (lastGo ((l.take n1).drop i) (i : Int) acc = z)) (fun _ i => n1 - (intOf i).toNat)
    case atStart => exact ⟨0, -1, Nat.zero_le _, rfl, rfl, by omega, by omega, ⟨by rw [HZ.out]; rfl⟩⟩
    case round =>
      obtain ⟨i, acc, hi, rfl, rfl, ha1, ha2, HG⟩ := hrel
      by_cases hlt : i < n1
      · have hil : i < l.length := by have := HN.out; omega
        obtain ⟨b, hb⟩ : ∃ b, b = l[i] := ⟨_, rfl⟩
        have hd : (l.take n1).drop i = b :: (l.take n1).drop (i + 1) := by
          rw [List.drop_eq_getElem_cons (by rw [List.length_take_of_le (by have := HN.out; omega)]; exact hlt), List.getElem_take, hb]
        have hx : w2.cell? (ad.add i) = some (.bool b) := by
          obtain ⟨ad', e', hx⟩ := Kd.at_bool HCR.out (i : Int) (by omega) (by omega)
          cases e'
          rw [Int.toNat_natCast] at hx
          rw [hb]
          simpa [rdOf, hil] using hx
        have hg := HG.out
        rw [hd, lastGo] at hg
        clear hd hb hil
        cases b with
        | true =>
          rw [if_pos rfl] at hg
          have HG2 : Aside0 (lastGo ((l.take n1).drop (i + 1)) ((i + 1 : Nat) : Int) (i : Int) = z) := ⟨by rw [← hg]; simp⟩
          clear hg HG
          go_wp2
          go_round
          case rel => exact ⟨i + 1, i, by omega, by go_num, rfl, by omega, by omega, HG2⟩
          case measure => simp [intOf]; omega
        | false =>
          rw [if_neg (by decide)] at hg
          have HG2 : Aside0 (lastGo ((l.take n1).drop (i + 1)) ((i + 1 : Nat) : Int) acc = z) := ⟨by rw [← hg]; simp⟩
          clear hg HG
          go_wp2
          go_round
          case rel => exact ⟨i + 1, acc, by omega, by go_num, rfl, ha1, ha2, HG2⟩
          case measure => simp [intOf]; omega
      · obtain rfl : i = n1 := by omega
        have hg := HG.out
        rw [List.drop_eq_nil_iff.2 (by rw [List.length_take]; omega), lastGo] at hg
        subst hg
        have hH := HH.out
        clear HG HH HZ H
        by_cases h0 : acc < 0
        · rw [if_pos (.inl h0)] at hH
          simp only [Prod.mk.injEq] at hH
          obtain ⟨rfl, rfl⟩ := hH
          have hd0 : decide (acc < 0) = true := decide_eq_true h0
          go_wp2
          go_ret2
          exact ⟨rfl, HB2.out⟩
        · have hd0 : decide (acc < 0) = false := decide_eq_false h0
          cases bl with
          | true =>
            rw [if_pos (.inr rfl)] at hH
            simp only [Prod.mk.injEq] at hH
            obtain ⟨rfl, rfl⟩ := hH
            go_wp2
            go_ret2
            exact ⟨rfl, HB2.out⟩
          | false =>
            rw [if_neg (by simp [h0])] at hH
            simp only [Prod.mk.injEq] at hH
            obtain ⟨rfl, rfl⟩ := hH
            go_wp2
            go_ret2
            exact ⟨rfl, HB2.out⟩
end Go.Proofs.Ytkfedkckakegjaa.P
