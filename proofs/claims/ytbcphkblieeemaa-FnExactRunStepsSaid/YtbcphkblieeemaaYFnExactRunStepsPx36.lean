/- The walk of impl.RunSteps (printed by gen_run.py). -/
import Derived.Test.YtbcphkblieeemaaYFnExactRunStepsPx23
import Derived.Test.YtbcphkblieeemaaYFnExactRunStepsPx24
import Derived.Test.YtbcphkblieeemaaYFnExactRunStepsVRun
namespace Go.Proofs.Ytbcphkblieeemaa.P
open Go.RowKit Go.Proofs.YtbcphkblieeemaaW.PrintWords Go.Proofs.YtbcphkblieeemaaW.PrintLast Go.Proofs.YtbcphkblieeemaaW.PrintMore Go.Proofs.Ytbcphkblieeemaa.Own Go.Proofs.Ytbcphkblieeemaa.A
set_option linter.unusedVariables false
set_option linter.unusedSimpArgs false
/-! ### impl_RunSteps: function 25 -/
def impl_RunSteps.f (k : Nat) (l : List S55) (line : Int) (vs : List Int) (n : Int) : Option (Int × List Int × Int × Bool) := if l.length ≤ 1048576 ∧ vs.length ≤ 1048576 then some (if StOk l line vs ∧ 0 ≤ n ∧ n ≤ 2000 then runI l n n.toNat 0 line vs else (0, [], 0, false)) else none
set_option maxHeartbeats 4000000 in
set_option maxRecDepth 100000 in
theorem impl_RunSteps.calls (k : Nat) (A0 : Option Addr) (c0 : Nat) (l0 : List S55) (a1_0 : Int) (A1_1 : Option Addr) (c1_1 : Nat) (l1_1 : List Int) (a2 : Int) (r1 : Int) (r2 : List Int) (r3 : Int) (r4 : Bool) (w : World) (hr0 : Kd.C k55 w A0 l0.length l0) (hc0 : l0.length ≤ c0) (hr1_1 : Kd.C (Kd.int .i64) w A1_1 l1_1.length l1_1) (hc1_1 : l1_1.length ≤ c1_1) (h : impl_RunSteps.f k l0 a1_0 l1_1 a2 = some (r1, r2, r3, r4)) :
    Calls Try.prog 25 #[.slice A0 l0.length c0, .agg #[.int .i64 a1_0, .slice A1_1 l1_1.length c1_1], .int .i64 a2] w fun e w' => ∃ v1_ : Value, e = .returned (.tuple #[.agg #[.int .i64 r1, v1_], .int .i64 r3, .bool r4]) ∧ Kd.R (Kd.int .i64) 3 w' w.heap.size (fun _ => True) v1_ r2 ∧ Below w.heap.size w w' := by
  unfold impl_RunSteps.f at h
  by_cases hsm : l0.length ≤ 1048576 ∧ l1_1.length ≤ 1048576
  case neg => rw [if_neg hsm] at h; simp at h
  rw [if_pos hsm] at h
  replace h := Option.some.inj h
  have H1 := Aside0.mk hr0
  have H2 := Aside0.mk hr1_1
  have HC1 := Aside0.mk hc0
  have HC2 := Aside0.mk hc1_1
  have hu := Try.underlying31
  obtain ⟨K, hK⟩ := implIsCt l0 a1_0 l1_1 (by simp only [maxLen]; omega) (by simp only [maxLen]; omega)
  have HK : Aside0 (impl_IsCounterState.f K l0 a1_0 l1_1 = some (stOk l0 a1_0 l1_1)) := ⟨hK K (Nat.le_refl _)⟩
  clear hr0 hr1_1 hc0 hc1_1 hK
  by_cases hok : StOk l0 a1_0 l1_1
  · have HK2 : Aside0 (impl_IsCounterState.f K l0 a1_0 l1_1 = some true) := ⟨by rw [HK.out]; exact congrArg some (decide_eq_true hok)⟩
    clear HK
    by_cases hn0 : a2 < 0
    · rw [if_neg (fun h_ => by omega)] at h
      have d0 : decide (a2 < 0) = true := decide_eq_true hn0
      go_enter Try.func25, Try.ntmps25
      go_wp2_with (first
        | ((with_reducible refine gate_dst (N := 4) rfl ?_); refine box_event ?hg (N := 4) ?hd (cs := #[.int .i64 a1_0, .slice A1_1 l1_1.length c1_1]) (t := 31) ?hr ?_; (case hd => rfl); (case hg => rfl); (case hr => first | (go_simp; done) | (go_simp; rfl)); intro g3 hg w3 hbox hb; have B3 := Aside0.mk hbox; have HB := Aside0.mk hb; have L3 : Aside0 (w.heap.size ≤ g3) := ⟨(by rw [hg]; exact Nat.le_refl _)⟩; clear hg hbox hb)
        | ((with_reducible refine gate_dst (N := 6) rfl ?_); refine box_event ?hg (N := 6) ?hd (cs := #[.int .i64 0, .slice none 0 0]) (t := 31) ?hr ?_; (case hd => rfl); (case hg => rfl); (case hr => first | (go_simp; done) | (go_simp; rfl)); intro g4 hg w4 hbox hb; have N34 : g3 ≠ g4 := (by rw [hg]; exact Nat.ne_of_lt (blk_lt B3.out)); have L4 : Aside0 (w.heap.size ≤ g4) := ⟨(by rw [hg]; exact HB.out.size)⟩; have B4 := Aside0.mk hbox; replace B3 := Aside0.mk (blk_below B3.out hb); replace HB := Aside0.mk (below_step HB.out hb); clear hg hbox hb; have z0 := (blk_cell B3.out 0).trans rfl; have z1 := (blk_cell B3.out 1).trans rfl)
        | fail)
      refine (impl_IsCounterState.calls K _ _ l0 a1_0 _ _ l1_1 true _ (Kd.C_below H1.out HB.out) HC1.out (Kd.C_below H2.out HB.out) HC2.out HK2.out).mono ?_
      rintro e w5 ⟨rfl, hb⟩
      replace HB := Aside0.mk (below_step HB.out hb)
      replace B3 := Aside0.mk (blk_below B3.out hb)
      clear z0 z1
      replace B4 := Aside0.mk (blk_below B4.out hb)
      have q0 := (blk_cell B4.out 0).trans rfl
      have q1 := (blk_cell B4.out 1).trans rfl
      have fq0 := blk_frozen B4.out 0
      have fq1 := blk_frozen B4.out 1
      clear hb
      simp only [Prod.mk.injEq] at h
      obtain ⟨rfl, rfl, rfl, rfl⟩ := h
      go_wp2
      refine bodyPost_ret (results_ctt rfl _ _ g4 31 #[.int .i64 0, .slice none 0 0] (0, 0) _ rfl (blk_put (cs := #[.int .i64 0, .slice none 0 0]) (blk_put (cs := #[.int .i64 0, .slice none 0 0]) B4.out 0 _ rfl) 1 _ rfl) Try.underlying31 rfl (by kernel_rfl)) rfl ?_
      exact ⟨_, rfl, Kd.R_nil _ _ _ _ _, below_set (below_set HB.out L4.out) L4.out⟩
    have d0 : decide (a2 < 0) = false := decide_eq_false hn0
    by_cases hn1 : a2 > 2000
    · rw [if_neg (fun h_ => by omega)] at h
      have d1 : decide (a2 > 2000) = true := decide_eq_true hn1
      have d1' : decide (2000 < a2) = true := decide_eq_true hn1
      go_enter Try.func25, Try.ntmps25
      go_wp2_with (first
        | ((with_reducible refine gate_dst (N := 4) rfl ?_); refine box_event ?hg (N := 4) ?hd (cs := #[.int .i64 a1_0, .slice A1_1 l1_1.length c1_1]) (t := 31) ?hr ?_; (case hd => rfl); (case hg => rfl); (case hr => first | (go_simp; done) | (go_simp; rfl)); intro g3 hg w3 hbox hb; have B3 := Aside0.mk hbox; have HB := Aside0.mk hb; have L3 : Aside0 (w.heap.size ≤ g3) := ⟨(by rw [hg]; exact Nat.le_refl _)⟩; clear hg hbox hb)
        | ((with_reducible refine gate_dst (N := 6) rfl ?_); refine box_event ?hg (N := 6) ?hd (cs := #[.int .i64 0, .slice none 0 0]) (t := 31) ?hr ?_; (case hd => rfl); (case hg => rfl); (case hr => first | (go_simp; done) | (go_simp; rfl)); intro g4 hg w4 hbox hb; have N34 : g3 ≠ g4 := (by rw [hg]; exact Nat.ne_of_lt (blk_lt B3.out)); have L4 : Aside0 (w.heap.size ≤ g4) := ⟨(by rw [hg]; exact HB.out.size)⟩; have B4 := Aside0.mk hbox; replace B3 := Aside0.mk (blk_below B3.out hb); replace HB := Aside0.mk (below_step HB.out hb); clear hg hbox hb; have z0 := (blk_cell B3.out 0).trans rfl; have z1 := (blk_cell B3.out 1).trans rfl)
        | fail)
      refine (impl_IsCounterState.calls K _ _ l0 a1_0 _ _ l1_1 true _ (Kd.C_below H1.out HB.out) HC1.out (Kd.C_below H2.out HB.out) HC2.out HK2.out).mono ?_
      rintro e w5 ⟨rfl, hb⟩
      replace HB := Aside0.mk (below_step HB.out hb)
      replace B3 := Aside0.mk (blk_below B3.out hb)
      clear z0 z1
      replace B4 := Aside0.mk (blk_below B4.out hb)
      have q0 := (blk_cell B4.out 0).trans rfl
      have q1 := (blk_cell B4.out 1).trans rfl
      have fq0 := blk_frozen B4.out 0
      have fq1 := blk_frozen B4.out 1
      clear hb
      simp only [Prod.mk.injEq] at h
      obtain ⟨rfl, rfl, rfl, rfl⟩ := h
      go_wp2
      refine bodyPost_ret (results_ctt rfl _ _ g4 31 #[.int .i64 0, .slice none 0 0] (0, 0) _ rfl (blk_put (cs := #[.int .i64 0, .slice none 0 0]) (blk_put (cs := #[.int .i64 0, .slice none 0 0]) B4.out 0 _ rfl) 1 _ rfl) Try.underlying31 rfl (by kernel_rfl)) rfl ?_
      exact ⟨_, rfl, Kd.R_nil _ _ _ _ _, below_set (below_set HB.out L4.out) L4.out⟩
    have d1 : decide (a2 > 2000) = false := decide_eq_false hn1
    have d1' : decide (2000 < a2) = false := decide_eq_false hn1
    rw [if_pos ⟨hok, by omega, by omega⟩] at h
    obtain ⟨N, rfl⟩ := Int.eq_ofNat_of_zero_le (show 0 ≤ a2 by omega)
    rw [Int.toNat_natCast] at h
    have H := Aside0.mk h
    have SO0 := Aside0.mk hok
    clear h
    have hv1 : 0 < l1_1.length := by have := hok.1.2.1; omega
    have hv4 : l1_1.length ≤ 4 := by have := hok.1.2.2.1; omega
    obtain ⟨ad0, ea0, -⟩ := at_T55 H1.out (0 : Int) (by omega) (by have := hok.1.2.2.2.1; omega)
    subst ea0
    clear hok
    go_enter Try.func25, Try.ntmps25
    go_wp2_with (first
      | ((with_reducible refine gate_dst (N := 4) rfl ?_); refine box_event ?hg (N := 4) ?hd (cs := #[.int .i64 a1_0, .slice A1_1 l1_1.length c1_1]) (t := 31) ?hr ?_; (case hd => rfl); (case hg => rfl); (case hr => first | (go_simp; done) | (go_simp; rfl)); intro g3 hg w3 hbox hb; have B3 := Aside0.mk hbox; have HB := Aside0.mk hb; have L3 : Aside0 (w.heap.size ≤ g3) := ⟨(by rw [hg]; exact Nat.le_refl _)⟩; clear hg hbox hb)
      | ((with_reducible refine gate_dst (N := 6) rfl ?_); refine box_event ?hg (N := 6) ?hd (cs := #[.int .i64 0, .slice none 0 0]) (t := 31) ?hr ?_; (case hd => rfl); (case hg => rfl); (case hr => first | (go_simp; done) | (go_simp; rfl)); intro g4 hg w4 hbox hb; have N34 : g3 ≠ g4 := (by rw [hg]; exact Nat.ne_of_lt (blk_lt B3.out)); have L4 : Aside0 (w.heap.size ≤ g4) := ⟨(by rw [hg]; exact HB.out.size)⟩; have B4 := Aside0.mk hbox; replace B3 := Aside0.mk (blk_below B3.out hb); replace HB := Aside0.mk (below_step HB.out hb); clear hg hbox hb; have z0 := (blk_cell B3.out 0).trans rfl; have z1 := (blk_cell B3.out 1).trans rfl)
      | fail)
    refine (impl_IsCounterState.calls K _ _ l0 a1_0 _ _ l1_1 true _ (Kd.C_below H1.out HB.out) HC1.out (Kd.C_below H2.out HB.out) HC2.out HK2.out).mono ?_
    rintro e w5 ⟨rfl, hb⟩
    replace HB := Aside0.mk (below_step HB.out hb)
    replace B3 := Aside0.mk (blk_below B3.out hb)
    clear z0 z1
    replace B4 := Aside0.mk (blk_below B4.out hb)
    have q0 := (blk_cell B4.out 0).trans rfl
    have q1 := (blk_cell B4.out 1).trans rfl
    have fq0 := blk_frozen B4.out 0
    have fq1 := blk_frozen B4.out 1
    clear hb q0 q1 fq0 fq1
    go_wp2
    refine start_ (n := 9) (S := fun w' => w'.cell? ⟨g3, 0, none⟩ = some (.int .i64 a1_0) ∧ w'.cell? ⟨g3, 1, none⟩ = some (.slice A1_1 l1_1.length c1_1)) (ds := []) #[false, false, false, false, false, false, false, false, false] (by kernel_rfl) rfl rfl ⟨(blk_cell B3.out 0).trans rfl, (blk_cell B3.out 1).trans rfl⟩ (fun hHeld => ?_)
    refine Own.anew_ (wN := w5) (by repeat (first | with_reducible exact Below.refl _ _ | with_reducible apply below_alloc | with_reducible apply pw_below_drewN | with_reducible apply below_drew1)) hHeld (fun wz hzb hHeld => ?_)
    have HZB := Aside0.mk hzb
    have BZ3 := Aside0.mk (blk_below B3.out hzb)
    have SRC := Aside0.mk (Kd.C_below (Kd.C_below H2.out HB.out) hzb)
    have HZ := Aside0.mk (Below.refl wz.heap.size wz)
    clear hzb
    refine pure_ (i := 0) (N := some 24) (v := ?_) (a' := ?_) #[true, false, false, false, false, false, false, false, false] rfl rfl (by kernel_rfl) (fun _ _ _ h => h) (Or.inl ⟨by rfl, ?_⟩) ?_ ?_
    rotate_left
    · intro w'
      go_simp
      with_reducible rfl
    rotate_left
    · simp only [Act.put, List.setIfInBounds_toArray, List.set_cons_zero, List.set_cons_succ, i64_w, i32_w]
      rfl
    refine pure_ (i := 3) (N := some 27) (v := ?_) (a' := ?_) #[true, false, false, true, false, false, false, false, false] rfl rfl (by kernel_rfl) (fun _ _ _ h => h) (Or.inl ⟨by rfl, ?_⟩) ?_ ?_
    rotate_left
    · intro w'
      go_simp
      with_reducible rfl
    rotate_left
    · simp only [Act.put, List.setIfInBounds_toArray, List.set_cons_zero, List.set_cons_succ, i64_w, i32_w]
      rfl
    refine take_ (i := 1) (N := some 25) (v := ?_) (a' := ?_) #[true, true, false, true, false, false, false, false, false] rfl rfl (by kernel_rfl) (fun _ _ _ h => h) (Or.inl ⟨by rfl, ?_⟩) hHeld ?_ ?_
    rotate_left
    · rintro w' ⟨s0, s1⟩
      go_simp
      with_reducible rfl
    rotate_left
    · simp only [Act.put, List.setIfInBounds_toArray, List.set_cons_zero, List.set_cons_succ, i64_w, i32_w]
      rfl
    refine take_ (i := 4) (N := some 28) (v := ?_) (a' := ?_) #[true, true, false, true, true, false, false, false, false] rfl rfl (by kernel_rfl) (fun _ _ _ h => h) (Or.inl ⟨by rfl, ?_⟩) hHeld ?_ ?_
    rotate_left
    · rintro w' ⟨s0, s1⟩
      go_simp
      with_reducible rfl
    rotate_left
    · simp only [Act.put, List.setIfInBounds_toArray, List.set_cons_zero, List.set_cons_succ, i64_w, i32_w]
      rfl
    refine join_ (σ := Value × Nat × Nat × Nat) 1 #[true, true, true, true, true, true, true, true, false] (fun s_ => [(26, s_.1), (29, .slice (some ⟨s_.2.1, 0, none⟩) l1_1.length s_.2.2.1), (9, .pointer (some ⟨s_.2.2.2, 0, none⟩)), (30, .agg #[.int .i64 a1_0, .slice (some ⟨s_.2.1, 0, none⟩) l1_1.length s_.2.2.1])]) (fun s_ w' => (w'.cell? ⟨g3, 0, none⟩ = some (.int .i64 a1_0) ∧ w'.cell? ⟨g3, 1, none⟩ = some (.slice A1_1 l1_1.length c1_1)) ∧ Kd.R (Kd.int .i64) 3 w' wz.heap.size (fun _ => True) (.slice (some ⟨s_.2.1, 0, none⟩) l1_1.length s_.2.2.1) l1_1 ∧ w'.heap[s_.2.2.2]? = some (.cells #[.int .i64 0, .slice none 0 0] 31 (0, 0)) ∧ wz.heap.size ≤ s_.2.2.2 ∧ Below wz.heap.size wz w') ?_ ?_
    rotate_left
    · intro hCont
      refine two_ (i := 2) (j := 7) (Ni := some 26) (Nj := some 9) #[true, true, true, true, true, false, false, false, false] #[true, true, false, true, true, false, false, true, false] rfl rfl rfl rfl (by kernel_rfl) (by decide) (by decide) (fun K hK => ?_) (fun K hK => ?_)
      · skip
        refine Kd.R_lit_step (Kd.int .i64) (w0 := wz) wz.heap.size 3 (by rfl) (N := 26) rfl (xs := ([] : List Int)) (inner := []) (ok := fun _ => True) (okp := fun _ => True) ?hr (Reps.none _ _) (fun _ hk => hk) trivial HZ.out HZ.out.size (by simp) ?_
        case hr => first | (go_simp; done) | (go_simp; rfl)
        intro vl wl ho hb hg _
        have HL := Aside0.mk ho
        replace HZ := Aside0.mk hb
        clear ho hb hg
        obtain ⟨Al, cl, el⟩ := Kd.R_slice HL.out
        replace el : vl = .slice Al 0 cl := el
        subst el
        refine hK.out _ _ ⟨(blk_cell (blk_below BZ3.out HZ.out) 0).trans rfl, (blk_cell (blk_below BZ3.out HZ.out) 1).trans rfl⟩ (fun hHeld => ?_)
        clear hK K
        refine norm_ (a' := ?_) ?_ ?_
        rotate_left
        · show Act.put _ (some 26) _ = _
          simp only [Act.put, List.setIfInBounds_toArray, List.set_cons_zero, List.set_cons_succ, i64_w, i32_w]
          rfl
        refine two_ (i := 5) (j := 7) (Ni := some 29) (Nj := some 9) #[true, true, true, true, true, true, false, false, false] #[true, true, true, true, true, false, false, true, false] rfl rfl rfl rfl (by kernel_rfl) (by decide) (by decide) (fun K hK => ?_) (fun K hK => ?_)
        · skip
          refine Kd.R_append_rows_step (Kd.int .i64) (w0 := wz) wz.heap.size (by rfl) (.tmp 26) (.tmp 28) 23 3 (.int .i64 0) 8 rfl Try.underlying23 info3 rfl (by decide) (by omega) (.slice Al 0 cl) [] l1_1 _ _ _ (fun _ => True) (fun _ => False) rfl rfl HL.out (Kd.C_below SRC.out HZ.out) (fun _ _ h => h) (fun _ h => h.elim) (fun _ _ => trivial) HZ.out HZ.out.size (by simp; omega) ?_
          intro va wa ho hb hg hat
          replace HZ := Aside0.mk hb
          rw [List.nil_append] at ho
          replace HL := Aside0.mk ho
          clear ho hb hg hat
          obtain ⟨g2, cap, eq2, hb2, _⟩ := Kd.R_form HL.out hv1
          subst eq2
          clear hb2
          refine hK.out _ _ ⟨(blk_cell (blk_below BZ3.out HZ.out) 0).trans rfl, (blk_cell (blk_below BZ3.out HZ.out) 1).trans rfl⟩ (fun hHeld => ?_)
          clear hK K
          refine norm_ (a' := ?_) ?_ ?_
          rotate_left
          · show Act.put _ (some 29) _ = _
            simp only [Act.put, List.setIfInBounds_toArray, List.set_cons_zero, List.set_cons_succ, i64_w, i32_w]
            rfl
          refine pure_ (i := 6) (N := some 30) (v := ?_) (a' := ?_) #[true, true, true, true, true, true, true, false, false] rfl rfl (by kernel_rfl) (fun _ _ _ h => h) (Or.inl ⟨by rfl, ?_⟩) ?_ ?_
          rotate_left
          · intro w'
            go_simp
            with_reducible rfl
          rotate_left
          · simp only [Act.put, List.setIfInBounds_toArray, List.set_cons_zero, List.set_cons_succ, i64_w, i32_w]
            rfl
          refine one_ (i := 7) (N := some 9) #[true, true, true, true, true, true, true, true, false] rfl rfl (by kernel_rfl) (by decide) (fun K hK => ?_)
          refine box_step (by rfl) (N := 9) rfl (cs := #[.int .i64 0, .slice none 0 0]) (t := 31) ?hr ?_
          case hr => first | (go_simp; done) | (go_simp; rfl)
          intro g6 hg w6 hbox hb
          have L6 : wz.heap.size ≤ g6 := by rw [hg]; exact HZ.out.size
          replace HZ := Aside0.mk (below_step HZ.out hb)
          replace HL := Aside0.mk (Kd.R_below HL.out hb)
          have B6 := Aside0.mk hbox
          clear hg hb hbox
          refine hK.out _ _ ⟨(blk_cell (blk_below BZ3.out HZ.out) 0).trans rfl, (blk_cell (blk_below BZ3.out HZ.out) 1).trans rfl⟩ (fun hHeld => ?_)
          clear hK K
          refine norm_ (a' := ?_) ?_ ?_
          rotate_left
          · show Act.put _ (some 9) _ = _
            simp only [Act.put, List.setIfInBounds_toArray, List.set_cons_zero, List.set_cons_succ, i64_w, i32_w]
            rfl
          exact norm_ (by simp only [putAll, Act.put, List.setIfInBounds_toArray, List.set_cons_zero, List.set_cons_succ]) (hCont (.slice Al 0 cl, g2, cap, g6) _ ⟨hHeld, HL.out, B6.out, L6, HZ.out⟩)
        · skip
          refine box_step (by rfl) (N := 9) rfl (cs := #[.int .i64 0, .slice none 0 0]) (t := 31) ?hr ?_
          case hr => first | (go_simp; done) | (go_simp; rfl)
          intro g6 hg w6 hbox hb
          have L6 : wz.heap.size ≤ g6 := by rw [hg]; exact HZ.out.size
          replace HZ := Aside0.mk (below_step HZ.out hb)
          replace HL := Aside0.mk (Kd.R_below HL.out hb)
          have B6 := Aside0.mk hbox
          clear hg hb hbox
          refine hK.out _ _ ⟨(blk_cell (blk_below BZ3.out HZ.out) 0).trans rfl, (blk_cell (blk_below BZ3.out HZ.out) 1).trans rfl⟩ (fun hHeld => ?_)
          clear hK K
          refine norm_ (a' := ?_) ?_ ?_
          rotate_left
          · show Act.put _ (some 9) _ = _
            simp only [Act.put, List.setIfInBounds_toArray, List.set_cons_zero, List.set_cons_succ, i64_w, i32_w]
            rfl
          refine one_ (i := 5) (N := some 29) #[true, true, true, true, true, true, false, true, false] rfl rfl (by kernel_rfl) (by decide) (fun K hK => ?_)
          refine Kd.R_append_rows_step (Kd.int .i64) (w0 := wz) wz.heap.size (by rfl) (.tmp 26) (.tmp 28) 23 3 (.int .i64 0) 8 rfl Try.underlying23 info3 rfl (by decide) (by omega) (.slice Al 0 cl) [] l1_1 _ _ _ (fun _ => True) (fun _ => False) rfl rfl HL.out (Kd.C_below SRC.out HZ.out) (fun _ _ h => h) (fun _ h => h.elim) (fun _ _ => trivial) HZ.out HZ.out.size (by simp; omega) ?_
          intro va wa ho hb hg hat
          replace HZ := Aside0.mk hb
          replace B6 := Aside0.mk (blk_grown B6.out hg (Kd.R_ne HL.out B6.out (by decide)))
          rw [List.nil_append] at ho
          replace HL := Aside0.mk ho
          clear ho hb hg hat
          obtain ⟨g2, cap, eq2, hb2, _⟩ := Kd.R_form HL.out hv1
          subst eq2
          clear hb2
          refine hK.out _ _ ⟨(blk_cell (blk_below BZ3.out HZ.out) 0).trans rfl, (blk_cell (blk_below BZ3.out HZ.out) 1).trans rfl⟩ (fun hHeld => ?_)
          clear hK K
          refine norm_ (a' := ?_) ?_ ?_
          rotate_left
          · show Act.put _ (some 29) _ = _
            simp only [Act.put, List.setIfInBounds_toArray, List.set_cons_zero, List.set_cons_succ, i64_w, i32_w]
            rfl
          refine pure_ (i := 6) (N := some 30) (v := ?_) (a' := ?_) #[true, true, true, true, true, true, true, true, false] rfl rfl (by kernel_rfl) (fun _ _ _ h => h) (Or.inl ⟨by rfl, ?_⟩) ?_ ?_
          rotate_left
          · intro w'
            go_simp
            with_reducible rfl
          rotate_left
          · simp only [Act.put, List.setIfInBounds_toArray, List.set_cons_zero, List.set_cons_succ, i64_w, i32_w]
            rfl
          exact norm_ (by simp only [putAll, Act.put, List.setIfInBounds_toArray, List.set_cons_zero, List.set_cons_succ]) (hCont (.slice Al 0 cl, g2, cap, g6) _ ⟨hHeld, HL.out, B6.out, L6, HZ.out⟩)
      · skip
        refine box_step (by rfl) (N := 9) rfl (cs := #[.int .i64 0, .slice none 0 0]) (t := 31) ?hr ?_
        case hr => first | (go_simp; done) | (go_simp; rfl)
        intro g6 hg w6 hbox hb
        have L6 : wz.heap.size ≤ g6 := by rw [hg]; exact HZ.out.size
        replace HZ := Aside0.mk (below_step HZ.out hb)
        have B6 := Aside0.mk hbox
        clear hg hb hbox
        refine hK.out _ _ ⟨(blk_cell (blk_below BZ3.out HZ.out) 0).trans rfl, (blk_cell (blk_below BZ3.out HZ.out) 1).trans rfl⟩ (fun hHeld => ?_)
        clear hK K
        refine norm_ (a' := ?_) ?_ ?_
        rotate_left
        · show Act.put _ (some 9) _ = _
          simp only [Act.put, List.setIfInBounds_toArray, List.set_cons_zero, List.set_cons_succ, i64_w, i32_w]
          rfl
        refine one_ (i := 2) (N := some 26) #[true, true, true, true, true, false, false, true, false] rfl rfl (by kernel_rfl) (by decide) (fun K hK => ?_)
        refine Kd.R_lit_step (Kd.int .i64) (w0 := wz) wz.heap.size 3 (by rfl) (N := 26) rfl (xs := ([] : List Int)) (inner := []) (ok := fun _ => True) (okp := fun _ => True) ?hr (Reps.none _ _) (fun _ hk => hk) trivial HZ.out HZ.out.size (by simp) ?_
        case hr => first | (go_simp; done) | (go_simp; rfl)
        intro vl wl ho hb hg _
        have hB : Below _ _ wl := ⟨hg.os, hg.tape, hg.output, hg.size, fun k hk => hg.block k hk (by simp)⟩
        replace B6 := Aside0.mk (blk_below B6.out hB)
        clear hB
        have HL := Aside0.mk ho
        replace HZ := Aside0.mk hb
        clear ho hb hg
        obtain ⟨Al, cl, el⟩ := Kd.R_slice HL.out
        replace el : vl = .slice Al 0 cl := el
        subst el
        refine hK.out _ _ ⟨(blk_cell (blk_below BZ3.out HZ.out) 0).trans rfl, (blk_cell (blk_below BZ3.out HZ.out) 1).trans rfl⟩ (fun hHeld => ?_)
        clear hK K
        refine norm_ (a' := ?_) ?_ ?_
        rotate_left
        · show Act.put _ (some 26) _ = _
          simp only [Act.put, List.setIfInBounds_toArray, List.set_cons_zero, List.set_cons_succ, i64_w, i32_w]
          rfl
        refine one_ (i := 5) (N := some 29) #[true, true, true, true, true, true, false, true, false] rfl rfl (by kernel_rfl) (by decide) (fun K hK => ?_)
        refine Kd.R_append_rows_step (Kd.int .i64) (w0 := wz) wz.heap.size (by rfl) (.tmp 26) (.tmp 28) 23 3 (.int .i64 0) 8 rfl Try.underlying23 info3 rfl (by decide) (by omega) (.slice Al 0 cl) [] l1_1 _ _ _ (fun _ => True) (fun _ => False) rfl rfl HL.out (Kd.C_below SRC.out HZ.out) (fun _ _ h => h) (fun _ h => h.elim) (fun _ _ => trivial) HZ.out HZ.out.size (by simp; omega) ?_
        intro va wa ho hb hg hat
        replace HZ := Aside0.mk hb
        replace B6 := Aside0.mk (blk_grown B6.out hg (Kd.R_ne HL.out B6.out (by decide)))
        rw [List.nil_append] at ho
        replace HL := Aside0.mk ho
        clear ho hb hg hat
        obtain ⟨g2, cap, eq2, hb2, _⟩ := Kd.R_form HL.out hv1
        subst eq2
        clear hb2
        refine hK.out _ _ ⟨(blk_cell (blk_below BZ3.out HZ.out) 0).trans rfl, (blk_cell (blk_below BZ3.out HZ.out) 1).trans rfl⟩ (fun hHeld => ?_)
        clear hK K
        refine norm_ (a' := ?_) ?_ ?_
        rotate_left
        · show Act.put _ (some 29) _ = _
          simp only [Act.put, List.setIfInBounds_toArray, List.set_cons_zero, List.set_cons_succ, i64_w, i32_w]
          rfl
        refine pure_ (i := 6) (N := some 30) (v := ?_) (a' := ?_) #[true, true, true, true, true, true, true, true, false] rfl rfl (by kernel_rfl) (fun _ _ _ h => h) (Or.inl ⟨by rfl, ?_⟩) ?_ ?_
        rotate_left
        · intro w'
          go_simp
          with_reducible rfl
        rotate_left
        · simp only [Act.put, List.setIfInBounds_toArray, List.set_cons_zero, List.set_cons_succ, i64_w, i32_w]
          rfl
        exact norm_ (by simp only [putAll, Act.put, List.setIfInBounds_toArray, List.set_cons_zero, List.set_cons_succ]) (hCont (.slice Al 0 cl, g2, cap, g6) _ ⟨hHeld, HL.out, B6.out, L6, HZ.out⟩)
    rintro ⟨vl, g2, cap, g6⟩ wj ⟨hHeld, ho, hx, L6, hz⟩
    have HL := Aside0.mk ho
    have B6 := Aside0.mk hx
    replace HZ := Aside0.mk hz
    clear ho hx hz
    have N36 : g3 ≠ g6 := Nat.ne_of_lt (Nat.lt_of_lt_of_le (blk_lt BZ3.out) L6)
    refine norm_ (a' := ?_) ?_ ?_
    rotate_left
    · simp only [putAll, Act.put, List.setIfInBounds_toArray, List.set_cons_zero, List.set_cons_succ]
      rfl
    refine one_ (i := 8) (N := none) #[true, true, true, true, true, true, true, true, true] rfl rfl (by kernel_rfl) (by decide) (fun K hK => ?_)
    have s60 := (blk_cell B6.out 0).trans rfl
    have s61 := (blk_cell B6.out 1).trans rfl
    have f60 := blk_frozen B6.out 0
    have f61 := blk_frozen B6.out 1
    refine skip_ (w1 := ?_) (by rfl) rfl ?_ ?_
    rotate_left
    · go_simp
      rfl
    refine hK.out _ _ ⟨(cell_far (p := ⟨g6, _, none⟩) N36 _).trans ((cell_far (p := ⟨g6, _, none⟩) N36 _).trans hHeld.1), (cell_far (p := ⟨g6, _, none⟩) N36 _).trans ((cell_far (p := ⟨g6, _, none⟩) N36 _).trans hHeld.2)⟩ (fun hHeld => ?_)
    clear hK K
    refine done_ (by kernel_rfl) ?_
    have q6 := blk_put (cs := #[.int .i64 a1_0, .slice none 0 0]) (blk_put (cs := #[.int .i64 0, .slice none 0 0]) B6.out 0 (.int .i64 a1_0) rfl) 1 (.slice (some ⟨g2, 0, none⟩) l1_1.length cap) rfl
    have qL := Kd.R_set (Kd.R_set HL.out B6.out (by decide) 0 (.int .i64 a1_0)) (blk_put (cs := #[.int .i64 0, .slice none 0 0]) B6.out 0 (.int .i64 a1_0) rfl) (by decide) 1 (.slice (some ⟨g2, 0, none⟩) l1_1.length cap)
    have qz : Below wz.heap.size wz ((wj.setCell ⟨g6, 0, none⟩ (.int .i64 a1_0)).setCell ⟨g6, 1, none⟩ (.slice (some ⟨g2, 0, none⟩) l1_1.length cap)) := below_set (below_set HZ.out L6) L6
    clear hHeld HL B6 HZ s60 s61 f60 f61 N36 BZ3 SRC
    generalize (wj.setCell ⟨g6, 0, none⟩ (.int .i64 a1_0)).setCell ⟨g6, 1, none⟩ (.slice (some ⟨g2, 0, none⟩) l1_1.length cap) = wn at q6 qL qz ⊢
    have B4z := blk_below B4.out HZB.out
    have N46 : g4 ≠ g6 := Nat.ne_of_lt (Nat.lt_of_lt_of_le (blk_lt B4z) L6)
    replace B4 := Aside0.mk (blk_below B4z qz)
    have NW := Aside0.mk (Now.mk (w0 := w) q6 (Kd.R_lower qL (Nat.le_trans HB.out.size HZB.out.size)) (below_step (below_step HB.out HZB.out) qz))
    have HG6 : Aside0 (w.heap.size ≤ g6) := ⟨Nat.le_trans (Nat.le_trans HB.out.size HZB.out.size) L6⟩
    have N42 : g4 ≠ g2 := fun e_ => Kd.R_ne NW.out.row B4.out (by decide) (by rw [e_]; rfl)
    clear q6 qL qz HB HZB B3 L3 L6 B4z
    go_wp2
    go_loopw [10] (fun v10 wr => ∃ (i : Nat) (ln : Int) (us : List Int), v10 = .int .i64 i ∧ i ≤ N ∧ Aside0 (runI l0 N (N - i) i ln us = (r1, r2, r3, r4)) ∧ Aside0 (StOk l0 ln us) ∧ Aside0 (Now w wr g6 g2 cap ln us) ∧ Aside0 (wr.heap[g4]? = some (.cells #[.int .i64 0, .slice none 0 0] 31 (0, 0)))) (fun i _ => N - (intOf i).toNat)
    case atStart => exact ⟨0, a1_0, l1_1, rfl, Nat.zero_le _, H, SO0, NW, B4⟩
    case round =>
      clear NW H SO0 B4
      obtain ⟨i, ln, us, rfl, hi, HH, SO, NW, B4⟩ := hrel
      have z0 : wr.cell? ⟨g6, 0, none⟩ = some (.int .i64 ln) := (blk_cell NW.out.box 0).trans rfl
      have z1 : wr.cell? ⟨g6, 1, none⟩ = some (.slice (some ⟨g2, 0, none⟩) us.length cap) := (blk_cell NW.out.box 1).trans rfl
      by_cases hlt : i < N
      · obtain ⟨m, hm⟩ : ∃ m, N - i = m + 1 := ⟨N - i - 1, by omega⟩
        have hh := HH.out
        rw [hm, runI] at hh
        by_cases hH : hLt l0 ln
        · rw [if_pos hH] at hh
          simp only [Prod.mk.injEq] at hh
          obtain ⟨rfl, rfl, rfl, rfl⟩ := hh
          have HHt : Aside0 (impl_hasHalted.f l0 ln us = some true) := ⟨by rw [implHalted SO.out]; exact congrArg some (decide_eq_true hH)⟩
          clear hH HH
          go_wp2_with fail
          refine (impl_hasHalted.calls _ _ l0 ln _ _ us true _ (Kd.C_below H1.out NW.out.be) HC1.out (Kd.R_reads' NW.out.row).2.2 (Kd.R_reads' NW.out.row).2.1 HHt.out).mono ?_
          rintro e w1 ⟨rfl, hb⟩
          replace NW := Aside0.mk (NW.out.below hb)
          replace B4 := Aside0.mk (blk_below B4.out hb)
          clear hb z0 z1
          have z0 : w1.cell? ⟨g6, 0, none⟩ = some (.int .i64 ln) := (blk_cell NW.out.box 0).trans rfl
          have z1 : w1.cell? ⟨g6, 1, none⟩ = some (.slice (some ⟨g2, 0, none⟩) us.length cap) := (blk_cell NW.out.box 1).trans rfl
          have q0 := (blk_cell B4.out 0).trans rfl
          have q1 := (blk_cell B4.out 1).trans rfl
          have fq0 := blk_frozen B4.out 0
          have fq1 := blk_frozen B4.out 1
          go_wp2
          refine bodyPost_ret (results_ctt rfl _ _ g4 31 #[.int .i64 ln, .slice (some ⟨g2, 0, none⟩) us.length cap] (0, 0) _ rfl (blk_put (cs := #[.int .i64 ln, .slice none 0 0]) (blk_put (cs := #[.int .i64 0, .slice none 0 0]) B4.out 0 _ rfl) 1 _ rfl) Try.underlying31 rfl (by kernel_rfl)) rfl ?_
          exact ⟨_, rfl, Kd.R_set (Kd.R_set NW.out.row B4.out (by decide) 0 _) (blk_put (cs := #[.int .i64 0, .slice none 0 0]) B4.out 0 _ rfl) (by decide) 1 _, below_set (below_set NW.out.be L4.out) L4.out⟩
        · rw [if_neg hH] at hh
          have HHt : Aside0 (impl_hasHalted.f l0 ln us = some false) := ⟨by rw [implHalted SO.out]; exact congrArg some (decide_eq_false hH)⟩
          clear hH HH
          obtain ⟨b, hb0⟩ : ∃ b, b = (stepL l0 ln us).2.2 := ⟨_, rfl⟩
          rw [← hb0] at hh
          have HST := Aside0.mk hb0
          have HH := Aside0.mk hh
          clear hb0 hh
          go_wp2_with fail
          refine (impl_hasHalted.calls _ _ l0 ln _ _ us false _ (Kd.C_below H1.out NW.out.be) HC1.out (Kd.R_reads' NW.out.row).2.2 (Kd.R_reads' NW.out.row).2.1 HHt.out).mono ?_
          rintro e w1 ⟨rfl, hb⟩
          replace NW := Aside0.mk (NW.out.below hb)
          replace B4 := Aside0.mk (blk_below B4.out hb)
          clear hb z0 z1
          go_wp2_with fail
          refine (advance_own (fun _ => True) g6 ad0 c0 l0 ln g2 cap us w _ H1.out HC1.out NW.out.be NW.out.box HG6.out NW.out.row SO.out).mono ?_
          rintro e wv ⟨rfl, hA⟩
          rw [← HST.out]
          have NW2 := Aside0.mk (Now.of_adv hA)
          replace B4 := Aside0.mk ((hA.keep g4 (blk_lt B4.out) N46 N42).trans B4.out)
          clear hA
          cases b with
          | true =>
            have hh := HH.out
            rw [if_pos rfl] at hh
            have HH2 : Aside0 (runI l0 N (N - (i + 1)) ((i + 1 : Nat) : Int) (stepL l0 ln us).1 (stepL l0 ln us).2.1 = (r1, r2, r3, r4)) := ⟨by rw [show N - (i + 1) = m by omega]; exact hh⟩
            clear hh HH
            go_wp2
            go_roundw
            case rel => exact ⟨i + 1, _, _, by go_num, by omega, HH2, ⟨stepL_ok SO.out⟩, NW2, B4⟩
            case measure => simp [intOf]; omega
          | false =>
            have hh := HH.out
            rw [if_neg (by simp)] at hh
            simp only [Prod.mk.injEq] at hh
            obtain ⟨rfl, rfl, rfl, rfl⟩ := hh
            have q0 := (blk_cell B4.out 0).trans rfl
            have q1 := (blk_cell B4.out 1).trans rfl
            have fq0 := blk_frozen B4.out 0
            have fq1 := blk_frozen B4.out 1
            go_wp2
            refine bodyPost_ret (results_ctt rfl _ _ g4 31 #[.int .i64 0, .slice none 0 0] (0, 0) _ rfl (blk_put (cs := #[.int .i64 0, .slice none 0 0]) (blk_put (cs := #[.int .i64 0, .slice none 0 0]) B4.out 0 _ rfl) 1 _ rfl) Try.underlying31 rfl (by kernel_rfl)) rfl ?_
            exact ⟨_, rfl, Kd.R_nil _ _ _ _ _, below_set (below_set NW2.out.be L4.out) L4.out⟩
      · have hh := HH.out
        rw [show N - i = 0 by omega, runI] at hh
        simp only [Prod.mk.injEq] at hh
        obtain ⟨rfl, rfl, rfl, rfl⟩ := hh
        have q0 := (blk_cell B4.out 0).trans rfl
        have q1 := (blk_cell B4.out 1).trans rfl
        have fq0 := blk_frozen B4.out 0
        have fq1 := blk_frozen B4.out 1
        go_wp2
        refine bodyPost_ret (results_ctt rfl _ _ g4 31 #[.int .i64 ln, .slice (some ⟨g2, 0, none⟩) us.length cap] (0, 0) _ rfl (blk_put (cs := #[.int .i64 ln, .slice none 0 0]) (blk_put (cs := #[.int .i64 0, .slice none 0 0]) B4.out 0 _ rfl) 1 _ rfl) Try.underlying31 rfl (by kernel_rfl)) rfl ?_
        exact ⟨_, rfl, Kd.R_set (Kd.R_set NW.out.row B4.out (by decide) 0 _) (blk_put (cs := #[.int .i64 0, .slice none 0 0]) B4.out 0 _ rfl) (by decide) 1 _, below_set (below_set NW.out.be L4.out) L4.out⟩
  · rw [if_neg (fun h_ => hok h_.1)] at h
    have HK2 : Aside0 (impl_IsCounterState.f K l0 a1_0 l1_1 = some false) := ⟨by rw [HK.out]; exact congrArg some (decide_eq_false hok)⟩
    clear HK
    go_enter Try.func25, Try.ntmps25
    go_wp2_with (first
      | ((with_reducible refine gate_dst (N := 4) rfl ?_); refine box_event ?hg (N := 4) ?hd (cs := #[.int .i64 a1_0, .slice A1_1 l1_1.length c1_1]) (t := 31) ?hr ?_; (case hd => rfl); (case hg => rfl); (case hr => first | (go_simp; done) | (go_simp; rfl)); intro g3 hg w3 hbox hb; have B3 := Aside0.mk hbox; have HB := Aside0.mk hb; have L3 : Aside0 (w.heap.size ≤ g3) := ⟨(by rw [hg]; exact Nat.le_refl _)⟩; clear hg hbox hb)
      | ((with_reducible refine gate_dst (N := 6) rfl ?_); refine box_event ?hg (N := 6) ?hd (cs := #[.int .i64 0, .slice none 0 0]) (t := 31) ?hr ?_; (case hd => rfl); (case hg => rfl); (case hr => first | (go_simp; done) | (go_simp; rfl)); intro g4 hg w4 hbox hb; have N34 : g3 ≠ g4 := (by rw [hg]; exact Nat.ne_of_lt (blk_lt B3.out)); have L4 : Aside0 (w.heap.size ≤ g4) := ⟨(by rw [hg]; exact HB.out.size)⟩; have B4 := Aside0.mk hbox; replace B3 := Aside0.mk (blk_below B3.out hb); replace HB := Aside0.mk (below_step HB.out hb); clear hg hbox hb; have z0 := (blk_cell B3.out 0).trans rfl; have z1 := (blk_cell B3.out 1).trans rfl)
      | fail)
    refine (impl_IsCounterState.calls K _ _ l0 a1_0 _ _ l1_1 false _ (Kd.C_below H1.out HB.out) HC1.out (Kd.C_below H2.out HB.out) HC2.out HK2.out).mono ?_
    rintro e w5 ⟨rfl, hb⟩
    replace HB := Aside0.mk (below_step HB.out hb)
    replace B3 := Aside0.mk (blk_below B3.out hb)
    clear z0 z1
    replace B4 := Aside0.mk (blk_below B4.out hb)
    have q0 := (blk_cell B4.out 0).trans rfl
    have q1 := (blk_cell B4.out 1).trans rfl
    have fq0 := blk_frozen B4.out 0
    have fq1 := blk_frozen B4.out 1
    clear hb
    simp only [Prod.mk.injEq] at h
    obtain ⟨rfl, rfl, rfl, rfl⟩ := h
    go_wp2
    refine bodyPost_ret (results_ctt rfl _ _ g4 31 #[.int .i64 0, .slice none 0 0] (0, 0) _ rfl (blk_put (cs := #[.int .i64 0, .slice none 0 0]) (blk_put (cs := #[.int .i64 0, .slice none 0 0]) B4.out 0 _ rfl) 1 _ rfl) Try.underlying31 rfl (by kernel_rfl)) rfl ?_
    exact ⟨_, rfl, Kd.R_nil _ _ _ _ _, below_set (below_set HB.out L4.out) L4.out⟩
end Go.Proofs.Ytbcphkblieeemaa.P
