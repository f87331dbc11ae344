/- The walk of impl.EqualStates (printed by gen_fp.py). -/
import Derived.Test.YtadhbepoblllhaaYFnExactEqualStatesPx18
import Derived.Test.YtadhbepoblllhaaYFnExactEqualStatesVKind
import Derived.Test.YtadhbepoblllhaaYFnExactEqualStatesAEq
namespace Go.Proofs.Ytadhbepoblllhaa.P
open Go.RowKit Go.Proofs.YtadhbepoblllhaaW.PrintWords Go.Proofs.YtadhbepoblllhaaW.PrintLast Go.Proofs.YtadhbepoblllhaaW.PrintMore Go.Proofs.Ytadhbepoblllhaa.Own Go.Proofs.Ytadhbepoblllhaa.A
set_option linter.unusedVariables false
set_option linter.unusedSimpArgs false
/-! ### impl_EqualStates: function 24 -/
def impl_EqualStates.f (k : Nat) (a0_0 : Int) (l0_1 : List (List Int)) (l0_2 : List Int) : Option (List (List Int) × Bool) := if AuSm l0_1 l0_2 then some (resEqual a0_0 l0_1 l0_2) else none
set_option maxHeartbeats 4000000 in
set_option maxRecDepth 100000 in
theorem impl_EqualStates.calls (k : Nat) (a0_0 : Int) (A0_1 : Option Addr) (c0_1 : Nat) (l0_1 : List (List Int)) (A0_2 : Option Addr) (c0_2 : Nat) (l0_2 : List Int) (r1 : List (List Int)) (r2 : Bool) (w : World) (hr0_1 : Kd.C (Kd.slice 3 (Kd.int .i64)) w A0_1 l0_1.length l0_1) (hc0_1 : l0_1.length ≤ c0_1) (hr0_2 : Kd.C (Kd.int .i64) w A0_2 l0_2.length l0_2) (hc0_2 : l0_2.length ≤ c0_2) (h : impl_EqualStates.f k a0_0 l0_1 l0_2 = some (r1, r2)) :
    Calls Try.prog 24 #[.agg #[.int .i64 a0_0, .slice A0_1 l0_1.length c0_1, .slice A0_2 l0_2.length c0_2]] w fun e w' => ∃ v0_ : Value, e = .returned (.tuple #[v0_, .bool r2]) ∧ Kd.S (Kd.slice 3 (Kd.int .i64)) 23 w' w.heap.size (fun _ => True) v0_ r1 ∧ Below w.heap.size w w' := by
  have hu29 := Try.underlying29
  unfold impl_EqualStates.f at h
  by_cases hsm : AuSm l0_1 l0_2
  case neg => rw [if_neg hsm] at h; simp at h
  rw [if_pos hsm] at h
  replace h := Option.some.inj h
  have H01 := Aside0.mk hr0_1
  have H02 := Aside0.mk hr0_2
  have C01 := Aside0.mk hc0_1
  have C02 := Aside0.mk hc0_2
  have B0 := Aside0.mk (blk_new w (.cells #[.int .i64 a0_0, .slice A0_1 l0_1.length c0_1, .slice A0_2 l0_2.length c0_2] 29))
  have HB0 := Aside0.mk (below_alloc (Below.refl w.heap.size w) (.cells #[.int .i64 a0_0, .slice A0_1 l0_1.length c0_1, .slice A0_2 l0_2.length c0_2] 29))
  obtain ⟨K, hK⟩ := isAu a0_0 l0_1 l0_2 hsm.max.1 hsm.max.2.1 hsm.max.2.2
  have HK : Aside0 (impl_IsAutomaton.f K a0_0 l0_1 l0_2 = some (decide (AuOk a0_0 l0_1 l0_2))) := ⟨hK K (Nat.le_refl _)⟩
  clear hr0_1 hr0_2 hc0_1 hc0_2 hK hsm
  unfold resEqual at h
  by_cases hok : AuOk a0_0 l0_1 l0_2
  · have HK2 : Aside0 (impl_IsAutomaton.f K a0_0 l0_1 l0_2 = some true) := ⟨by rw [HK.out]; exact congrArg some (decide_eq_true hok)⟩
    rw [if_pos hok] at h
    simp only [Prod.mk.injEq] at h
    obtain ⟨h1, rfl⟩ := h
    have HOK := Aside0.mk hok
    have hn12 : l0_1.length ≤ 12 := by have := hok.2.1; omega
    have H := Aside0.mk h1
    clear HK hok h1
    go_enter Try.func24, Try.ntmps24
    go_wp2_with fail
    refine (impl_IsAutomaton.calls K _ _ _ _ _ _ _ true _ (Kd.C_below H01.out HB0.out) C01.out (Kd.C_below H02.out HB0.out) C02.out HK2.out).mono ?_
    rintro e w2 ⟨rfl, hb⟩
    have HB2 := Aside0.mk (below_step HB0.out hb)
    have B2 := Aside0.mk (blk_below B0.out hb)
    have y1 : w2.cell? ⟨w.heap.size, 1, none⟩ = some (.slice A0_1 l0_1.length c0_1) := (blk_cell B2.out 1).trans rfl
    clear hb HB0 B0 HK2
    go_wp2_with (first
      | ((with_reducible refine gate_dst (N := 12) rfl ?_); refine Kd.S_lits (Kd.slice 3 (Kd.int .i64)) (w0 := w) w.heap.size 23 rfl (N := 12) rfl (xs := ([] : List (List Int))) (inner := []) (ok := fun _ => True) (fun j k => False) ?h1 ?h2 ?h3 ?h4 ?h5 ?h6 ?h7 ?h8 ?h9 ?_; (case h1 => first | (go_simp; done) | (go_simp; rfl)); (case h2 => exact rfl); (case h3 => exact (fun j x h => by simp at h)); (case h4 => exact (fun i j k h1 h2 => h1.elim)); (case h5 => exact (fun j k h1 => h1.elim)); (case h6 => exact trivial); (case h7 => exact HB2.out); (case h8 => exact HB2.out.size); (case h9 => exact (by simp)); intro v4 w3 ho hb hg hnew; have HS := Aside0.mk ho; have HB3 := Aside0.mk hb; have B3 := Aside0.mk (blk_grown B2.out hg (by simp)); clear ho hb hg hnew HB2 B2 y1; have y1 : w3.cell? ⟨w.heap.size, 1, none⟩ = some (.slice A0_1 l0_1.length c0_1) := (blk_cell B3.out 1).trans rfl)
      | fail)
    go_loopw [4, 16] (fun v4 v16 wr => ∃ (i : Nat) (X : List (List Int)), v16 = .int .i64 i ∧ i ≤ l0_1.length ∧ X.length ≤ i * 12 ∧ Aside0 (X ++ eqRows l0_1 l0_2 (l0_1.length - i) i = r1) ∧ Aside0 (Kd.S (Kd.slice 3 (Kd.int .i64)) 23 wr w.heap.size (fun _ => True) v4 X) ∧ Aside0 (wr.heap[w.heap.size]? = some (.cells #[.int .i64 a0_0, .slice A0_1 l0_1.length c0_1, .slice A0_2 l0_2.length c0_2] 29 (0, 0))) ∧ Aside0 (Below w.heap.size w wr)) (fun _ i _ => l0_1.length - (intOf i).toNat)
    case atStart => exact ⟨0, [], rfl, Nat.zero_le _, Nat.zero_le _, ⟨by simpa using H.out⟩, HS, B3, HB3⟩
    case round =>
      clear H HS HB3 B3 y1
      obtain ⟨i, X, rfl, hi, hX, H, HS, BK, HB⟩ := hrel
      have y1 : wr.cell? ⟨w.heap.size, 1, none⟩ = some (.slice A0_1 l0_1.length c0_1) := (blk_cell BK.out 1).trans rfl
      by_cases hlt : i < l0_1.length
      · have hh := H.out
        rw [show l0_1.length - i = (l0_1.length - (i + 1)) + 1 by omega, eqRows, ← List.append_assoc] at hh
        obtain ⟨Q, hQ⟩ : ∃ Q, Q = X ++ eqRow l0_1 l0_2 i (l0_1.length - (i + 1)) (i + 1) := ⟨_, rfl⟩
        rw [← hQ] at hh
        have hQl : Q.length ≤ (i + 1) * 12 := by
          rw [hQ, List.length_append, Nat.succ_mul]
          have := (eqRow_len l0_1 l0_2 i (l0_1.length - (i + 1)) (i + 1)).1
          omega
        have H2 := Aside0.mk hh
        have HQ := Aside0.mk hQ.symm
        have HQL := Aside0.mk hQl
        clear hh hQ H hQl
        go_wp2
        go_loopw [4, 6] (fun v4 v6 wr => ∃ (m : Nat) (X : List (List Int)), v6 = .int .i64 m ∧ i + 1 ≤ m ∧ m ≤ l0_1.length ∧ X.length ≤ i * 12 + (m - (i + 1)) ∧ Aside0 (X ++ eqRow l0_1 l0_2 i (l0_1.length - m) m = Q) ∧ Aside0 (Kd.S (Kd.slice 3 (Kd.int .i64)) 23 wr w.heap.size (fun _ => True) v4 X) ∧ Aside0 (wr.heap[w.heap.size]? = some (.cells #[.int .i64 a0_0, .slice A0_1 l0_1.length c0_1, .slice A0_2 l0_2.length c0_2] 29 (0, 0))) ∧ Aside0 (Below w.heap.size w wr)) (fun _ m _ => l0_1.length - (intOf m).toNat)
        case atStart => exact ⟨i + 1, X, by go_num, Nat.le_refl _, by omega, by omega, HQ, HS, BK, HB⟩
        case round =>
          clear HS HB BK HQ y1 hX
          obtain ⟨m, X, rfl, hm, hm2, hX, HQ, HS, BK, HB⟩ := hrel
          have y0 : wr.cell? ⟨w.heap.size, 0, none⟩ = some (.int .i64 a0_0) := (blk_cell BK.out 0).trans rfl
          have y1 : wr.cell? ⟨w.heap.size, 1, none⟩ = some (.slice A0_1 l0_1.length c0_1) := (blk_cell BK.out 1).trans rfl
          have y2 : wr.cell? ⟨w.heap.size, 2, none⟩ = some (.slice A0_2 l0_2.length c0_2) := (blk_cell BK.out 2).trans rfl
          by_cases hlm : m < l0_1.length
          · have hh := HQ.out
            rw [show l0_1.length - m = (l0_1.length - (m + 1)) + 1 by omega, eqRow, ← List.append_assoc] at hh
            obtain ⟨⟨q1, q2⟩, hq⟩ : ∃ q, q = wordOf 3 l0_1 l0_2 l0_1 l0_2 (i : Int) (m : Int) := ⟨_, rfl⟩
            rw [← hq] at hh
            have HWQ : Aside0 (findP 3 l0_2 l0_2 (bfsP l0_1 l0_1 (i : Int) (m : Int)).1 (bfsP l0_1 l0_1 (i : Int) (m : Int)).2 = (q1, q2)) := ⟨hq.symm⟩
            have HV : Aside0 (VP l0_1 l0_1 ((i : Int), (m : Int))) := ⟨⟨⟨by simp, by simp; omega⟩, ⟨by simp, by simp; omega⟩⟩⟩
            clear hq HQ
            simp only at hh
            cases q2 with
            | true =>
              have HQ2 : Aside0 (X ++ eqRow l0_1 l0_2 i (l0_1.length - (m + 1)) (m + 1) = Q) := ⟨by simpa using hh⟩
              clear hh
              go_wp2_with (first | ((go_at_call 35; (with_reducible refine (firstOfKind_own 3 _ _ _ l0_1 _ _ l0_2 _ _ _ l0_1 _ _ l0_2 (i : Int) (m : Int) q1 true _ (Kd.C_below H01.out HB.out) (Kd.C_below H02.out HB.out) C02.out (Kd.C_below H01.out HB.out) (Kd.C_below H02.out HB.out) C02.out (TwoOk.of HOK.out HOK.out) HV.out HWQ.out).mono ?_); rintro e w4 ⟨v7, rfl, hR, hb⟩; have HS4 := Aside0.mk (Kd.S_below HS.out hb); have B4 := Aside0.mk (blk_below BK.out hb); have HB4 := Aside0.mk (below_step HB.out hb); clear hb hR HS BK HB y0 y1 y2)) | fail)
              go_roundw
              case rel => first | exact ⟨m + 1, X, by go_num, by omega, by omega, by omega, HQ2, HS4, B4, HB4⟩ | (repeat (first | exact ⟨⟨m + 1, X, by go_num, by omega, by omega, by omega, HQ2, HS4, B4, HB4⟩, rfl⟩ | refine ⟨_, ?_⟩))
              case measure => simp [intOf]; omega
            | false =>
              have HQ2 : Aside0 ((X ++ [[(i : Int), (m : Int)]]) ++ eqRow l0_1 l0_2 i (l0_1.length - (m + 1)) (m + 1) = Q) := ⟨by simpa using hh⟩
              clear hh
              go_wp2_with (first
                | ((go_at_call 35; (with_reducible refine (firstOfKind_own 3 _ _ _ l0_1 _ _ l0_2 _ _ _ l0_1 _ _ l0_2 (i : Int) (m : Int) q1 false _ (Kd.C_below H01.out HB.out) (Kd.C_below H02.out HB.out) C02.out (Kd.C_below H01.out HB.out) (Kd.C_below H02.out HB.out) C02.out (TwoOk.of HOK.out HOK.out) HV.out HWQ.out).mono ?_); rintro e w4 ⟨v7, rfl, hR, hb⟩; have HS4 := Aside0.mk (Kd.S_below HS.out hb); have B4 := Aside0.mk (blk_below BK.out hb); have HB4 := Aside0.mk (below_step HB.out hb); clear hb hR HS BK HB y0 y1 y2))
                | ((with_reducible refine gate_dst (N := 41) rfl ?_); refine Kd.R_lit (Kd.int .i64) _ 3 rfl (N := 41) rfl (xs := [(i : Int), (m : Int)]) (inner := [.int .i64 (i : Int), .int .i64 (m : Int)]) (ok := fun _ => True) (okp := fun _ => True) ?hr ?hp (fun _ hk => hk) trivial (Below.refl _ _) (Nat.le_refl _) (by simp) ?_; (case hr => first | (go_simp; done) | (go_simp; rfl)); (case hp => exact (Reps.one (show Kd.M (Kd.int .i64) _ _ _ (i : Int) [.int .i64 (i : Int)] from rfl) (Reps.one (show Kd.M (Kd.int .i64) _ _ _ (m : Int) [.int .i64 (m : Int)] from rfl) (Reps.none _ _)))); intro vl w5 ho hb _ _; have HS5 := Aside0.mk (Kd.S_elder' HS4.out (Kd.R_base ho) hb); have HL := Aside0.mk (Kd.R_lower ho HB4.out.size); have B5 := Aside0.mk (blk_below B4.out hb); have HB5 := Aside0.mk (below_step HB4.out hb); have HLN := Aside0.mk (Kd.R_base ho); have HLT := Aside0.mk (Kd.S_lt HS4.out); clear ho hb HS4 B4 HB4; obtain ⟨Al, cl, el⟩ := Kd.R_slice HL.out; replace el : vl = .slice Al 2 cl := el; subst el)
                | ((with_reducible refine gate_builtin (b := .append) (xs := #[.tmp 38, .tmp 42]) rfl ?_); at_builtin; refine Kd.S_append (Kd.slice 3 (Kd.int .i64)) (w0 := w) w.heap.size rfl (.tmp 38) (.tmp 42) 22 23 (.slice none 0 0) 24 rfl Try.underlying22 info23 rfl (by decide) (by omega) _ X [(i : Int), (m : Int)] [.slice Al 2 cl] (fun _ => True) (fun k_ => some k_ = (Value.slice Al 2 cl).ownBlock) rfl rfl ?aM ?aK (fun _ _ => trivial) ?aO ?aB ?aS ?aL ?_; (case aM => exact ⟨_, rfl, Kd.R_tight rfl HL.out⟩); (case aK => exact (fun k_ hk => ⟨trivial, fun e_ => by have h1 := HLN.out k_ hk.symm; have h2 := HLT.out k_ e_.symm; omega⟩)); (case aO => exact Kd.S_mono HS5.out (fun k_ hk => ⟨trivial, hk.2⟩)); (case aB => exact HB5.out); (case aS => exact HB5.out.size); (case aL => omega); intro v4n w6 ho hb hg hat; have HS6 := Aside0.mk ho; have HB6 := Aside0.mk hb; have B6 := Aside0.mk (blk_grown B5.out hg (Kd.S_ne HS5.out B5.out (by decide))); clear ho hb hg hat HS5 HL B5 HB5 HLN HLT)
                | fail)
              go_roundw
              case rel => first | exact ⟨m + 1, X ++ [[(i : Int), (m : Int)]], by go_num, by omega, by omega, by simp; omega, HQ2, HS6, B6, HB6⟩ | (repeat (first | exact ⟨⟨m + 1, X ++ [[(i : Int), (m : Int)]], by go_num, by omega, by omega, by simp; omega, HQ2, HS6, B6, HB6⟩, rfl⟩ | refine ⟨_, ?_⟩))
              case measure => simp [intOf]; omega
          · obtain rfl : m = l0_1.length := by omega
            have hh := HQ.out
            rw [Nat.sub_self, eqRow, List.append_nil] at hh
            subst hh
            clear HQ
            go_wp2
            go_roundw
            case rel => first | exact ⟨i + 1, X, by go_num, by omega, HQL.out, H2, HS, BK, HB⟩ | (repeat (first | exact ⟨⟨i + 1, X, by go_num, by omega, HQL.out, H2, HS, BK, HB⟩, rfl⟩ | refine ⟨_, ?_⟩))
            case measure => simp [intOf]; omega
      · obtain rfl : i = l0_1.length := by omega
        have hh := H.out
        rw [Nat.sub_self, eqRows, List.append_nil] at hh
        subst hh
        clear H
        go_wp2
        go_ret2
        exact ⟨_, rfl, HS.out, HB.out⟩
  · rw [if_neg hok] at h
    simp only [Prod.mk.injEq] at h
    obtain ⟨rfl, rfl⟩ := h
    have HK2 : Aside0 (impl_IsAutomaton.f K a0_0 l0_1 l0_2 = some false) := ⟨by rw [HK.out]; exact congrArg some (decide_eq_false hok)⟩
    clear HK hok
    go_enter Try.func24, Try.ntmps24
    go_wp2_with fail
    refine (impl_IsAutomaton.calls K _ _ _ _ _ _ _ false _ (Kd.C_below H01.out HB0.out) C01.out (Kd.C_below H02.out HB0.out) C02.out HK2.out).mono ?_
    rintro e w2 ⟨rfl, hb⟩
    have HB2 := Aside0.mk (below_step HB0.out hb)
    have B2 := Aside0.mk (blk_below B0.out hb)
    have y1 : w2.cell? ⟨w.heap.size, 1, none⟩ = some (.slice A0_1 l0_1.length c0_1) := (blk_cell B2.out 1).trans rfl
    clear hb HB0 B0 HK2
    go_wp2_with fail
    go_ret2
    exact ⟨_, rfl, Kd.S_nil _ _ _ _ _, HB2.out⟩
end Go.Proofs.Ytadhbepoblllhaa.P
