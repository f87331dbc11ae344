/- The walk of impl.StepOnce (printed by gen_step.py). -/
import Derived.Test.YtbcphkblieeemaaYFnExactStepOncePx23
import Derived.Test.YtbcphkblieeemaaYFnExactStepOnceVAdvance
namespace Go.Proofs.Ytbcphkblieeemaa.P
open Go.RowKit Go.Proofs.YtbcphkblieeemaaW.PrintWords Go.Proofs.YtbcphkblieeemaaW.PrintLast Go.Proofs.YtbcphkblieeemaaW.PrintMore Go.Proofs.Ytbcphkblieeemaa.Own Go.Proofs.Ytbcphkblieeemaa.A
set_option linter.unusedVariables false
set_option linter.unusedSimpArgs false
/-! ### impl_StepOnce: function 20 -/
/-- Two boxes, beside what is made. -/
structure Pre (w W : World) (g3 g4 : Nat) (c3 c4 : Array Value) : Prop where
  b3 : W.heap[g3]? = some (.cells c3 31 (0, 0))
  b4 : W.heap[g4]? = some (.cells c4 31 (0, 0))
  be : Below w.heap.size w W
  l3 : w.heap.size ≤ g3
  l4 : w.heap.size ≤ g4
  ne : g3 ≠ g4
theorem Pre.below {w W W1 : World} {g3 g4 : Nat} {c3 c4 : Array Value} (h : Pre w W g3 g4 c3 c4) (hb : Below W.heap.size W W1) : Pre w W1 g3 g4 c3 c4 := ⟨blk_below h.b3 hb, blk_below h.b4 hb, below_step h.be hb, h.l3, h.l4, h.ne⟩
theorem Pre.grown {w W W1 : World} {g3 g4 : Nat} {c3 c4 : Array Value} {row : Option Nat} (h : Pre w W g3 g4 c3 c4) (hb : Below w.heap.size w W1) (hg : W.grownBy W1 row) (h3 : some g3 ≠ row) (h4 : some g4 ≠ row) : Pre w W1 g3 g4 c3 c4 := ⟨blk_grown h.b3 hg h3, blk_grown h.b4 hg h4, hb, h.l3, h.l4, h.ne⟩
def impl_StepOnce.f (k : Nat) (l : List S55) (line : Int) (vs : List Int) : Option (Int × List Int × Bool) := if l.length ≤ 1048576 ∧ vs.length ≤ 1048576 then some (if StOk l line vs ∧ (stepL l line vs).2.2 = true then ((stepL l line vs).1, (stepL l line vs).2.1, true) else (0, [], false)) else none
set_option maxHeartbeats 4000000 in
set_option maxRecDepth 100000 in
theorem impl_StepOnce.calls (k : Nat) (A0 : Option Addr) (c0 : Nat) (l0 : List S55) (a1_0 : Int) (A1_1 : Option Addr) (c1_1 : Nat) (l1_1 : List Int) (r1 : Int) (r2 : List Int) (r3 : Bool) (w : World) (hr0 : Kd.C k55 w A0 l0.length l0) (hc0 : l0.length ≤ c0) (hr1_1 : Kd.C (Kd.int .i64) w A1_1 l1_1.length l1_1) (hc1_1 : l1_1.length ≤ c1_1) (h : impl_StepOnce.f k l0 a1_0 l1_1 = some (r1, r2, r3)) :
    Calls Try.prog 20 #[.slice A0 l0.length c0, .agg #[.int .i64 a1_0, .slice A1_1 l1_1.length c1_1]] w fun e w' => ∃ v1_ : Value, e = .returned (.tuple #[.agg #[.int .i64 r1, v1_], .bool r3]) ∧ Kd.R (Kd.int .i64) 3 w' w.heap.size (fun _ => True) v1_ r2 ∧ Below w.heap.size w w' := by
  have hu := Try.underlying31
  unfold impl_StepOnce.f at h
  by_cases hsm : l0.length ≤ 1048576 ∧ l1_1.length ≤ 1048576
  case neg => rw [if_neg hsm] at h; simp at h
  rw [if_pos hsm] at h
  replace h := Option.some.inj h
  have H1 := Aside0.mk hr0
  have H2 := Aside0.mk hr1_1
  have HC1 := Aside0.mk hc0
  have HC2 := Aside0.mk hc1_1
  obtain ⟨K, hK⟩ := implIsCt l0 a1_0 l1_1 (by simp only [maxLen]; omega) (by simp only [maxLen]; omega)
  have HK : Aside0 (impl_IsCounterState.f K l0 a1_0 l1_1 = some (stOk l0 a1_0 l1_1)) := ⟨hK K (Nat.le_refl _)⟩
  clear hr0 hr1_1 hc0 hc1_1 hK
  by_cases hok : StOk l0 a1_0 l1_1
  · have HK2 : Aside0 (impl_IsCounterState.f K l0 a1_0 l1_1 = some true) := ⟨by rw [HK.out]; exact congrArg some (decide_eq_true hok)⟩
    have hv1 : 0 < l1_1.length := by have := hok.1.2.1; omega
    clear HK
    obtain ⟨ad0, ea0, -⟩ := at_T55 H1.out (0 : Int) (by omega) (by have := hok.1.2.2.2.1; omega)
    subst ea0
    obtain ⟨⟨ln, vn, bn⟩, hst⟩ : ∃ t, t = stepL l0 a1_0 l1_1 := ⟨_, rfl⟩
    rw [← hst] at h
    have HST := Aside0.mk hst
    clear hst
    go_enter Try.func20, Try.ntmps20
    go_wp2_with (first
      | ((with_reducible refine gate_dst (N := 3) rfl ?_); refine box_event ?hg (N := 3) ?hd (cs := #[.int .i64 a1_0, .slice A1_1 l1_1.length c1_1]) (t := 31) ?hr ?_; (case hd => rfl); (case hg => rfl); (case hr => first | (go_simp; done) | (go_simp; rfl)); intro g3 hg w3 hbox hb; have B3 := Aside0.mk hbox; have L3 : w.heap.size ≤ g3 := (by rw [hg]; exact Nat.le_refl _); have HB3 := Aside0.mk hb; clear hg hbox hb)
      | ((with_reducible refine gate_dst (N := 4) rfl ?_); refine box_event ?hg (N := 4) ?hd (cs := #[.int .i64 0, .slice none 0 0]) (t := 31) ?hr ?_; (case hd => rfl); (case hg => rfl); (case hr => first | (go_simp; done) | (go_simp; rfl)); intro g4 hg w4 hbox hb; have HP : Aside0 (Pre w w4 g3 g4 #[.int .i64 a1_0, .slice A1_1 l1_1.length c1_1] #[.int .i64 0, .slice none 0 0]) := ⟨⟨blk_below B3.out hb, hbox, below_step HB3.out hb, L3, (by rw [hg]; exact HB3.out.size), (by rw [hg]; exact Nat.ne_of_lt (blk_lt B3.out))⟩⟩; clear hg hbox hb B3 HB3; have z0 := (blk_cell HP.out.b3 0).trans rfl; have z1 := (blk_cell HP.out.b3 1).trans rfl)
      | fail)
    refine (impl_IsCounterState.calls K _ _ l0 a1_0 _ _ l1_1 true _ (Kd.C_below H1.out HP.out.be) HC1.out (Kd.C_below H2.out HP.out.be) HC2.out HK2.out).mono ?_
    rintro e w5 ⟨rfl, hb⟩
    replace HP := Aside0.mk (HP.out.below hb)
    have q0 := (blk_cell HP.out.b4 0).trans rfl
    have q1 := (blk_cell HP.out.b4 1).trans rfl
    have fq0 := blk_frozen HP.out.b4 0
    have fq1 := blk_frozen HP.out.b4 1
    clear hb z0 z1
    go_wp2
    refine start_ (n := 9) (S := fun w' => w'.cell? ⟨g3, 0, none⟩ = some (.int .i64 a1_0) ∧ w'.cell? ⟨g3, 1, none⟩ = some (.slice A1_1 l1_1.length c1_1)) (ds := []) #[false, false, false, false, false, false, false, false, false] (by kernel_rfl) rfl rfl ⟨(blk_cell HP.out.b3 0).trans rfl, (blk_cell HP.out.b3 1).trans rfl⟩ (fun hHeld => ?_)
    refine Own.anew_ (wN := w5) (by repeat (first | with_reducible exact Below.refl _ _ | with_reducible apply below_alloc | with_reducible apply pw_below_drewN | with_reducible apply below_drew1)) hHeld (fun wz hb hHeld => ?_)
    replace HP := Aside0.mk (HP.out.below hb)
    clear hb
    refine pure_ (i := 0) (N := some 12) (v := ?_) (a' := ?_) #[true, false, false, false, false, false, false, false, false] rfl rfl (by kernel_rfl) (fun _ _ _ h => h) (Or.inl ⟨by rfl, ?_⟩) ?_ ?_
    rotate_left
    · intro w'
      go_simp
      with_reducible rfl
    rotate_left
    · simp only [Act.put, List.setIfInBounds_toArray, List.set_cons_zero, List.set_cons_succ, i64_w, i32_w]
      rfl
    refine pure_ (i := 3) (N := some 15) (v := ?_) (a' := ?_) #[true, false, false, true, false, false, false, false, false] rfl rfl (by kernel_rfl) (fun _ _ _ h => h) (Or.inl ⟨by rfl, ?_⟩) ?_ ?_
    rotate_left
    · intro w'
      go_simp
      with_reducible rfl
    rotate_left
    · simp only [Act.put, List.setIfInBounds_toArray, List.set_cons_zero, List.set_cons_succ, i64_w, i32_w]
      rfl
    refine take_ (i := 1) (N := some 13) (v := ?_) (a' := ?_) #[true, true, false, true, false, false, false, false, false] rfl rfl (by kernel_rfl) (fun _ _ _ h => h) (Or.inl ⟨by rfl, ?_⟩) hHeld ?_ ?_
    rotate_left
    · rintro w' ⟨s0, s1⟩
      go_simp
      with_reducible rfl
    rotate_left
    · simp only [Act.put, List.setIfInBounds_toArray, List.set_cons_zero, List.set_cons_succ, i64_w, i32_w]
      rfl
    refine take_ (i := 4) (N := some 16) (v := ?_) (a' := ?_) #[true, true, false, true, true, false, false, false, false] rfl rfl (by kernel_rfl) (fun _ _ _ h => h) (Or.inl ⟨by rfl, ?_⟩) hHeld ?_ ?_
    rotate_left
    · rintro w' ⟨s0, s1⟩
      go_simp
      with_reducible rfl
    rotate_left
    · simp only [Act.put, List.setIfInBounds_toArray, List.set_cons_zero, List.set_cons_succ, i64_w, i32_w]
      rfl
    refine two_ (i := 2) (j := 7) (Ni := some 14) (Nj := some 6) #[true, true, true, true, true, false, false, false, false] #[true, true, false, true, true, false, false, true, false] rfl rfl rfl rfl (by kernel_rfl) (by decide) (by decide) (fun K hK => ?_) (fun K hK => ?_)
    · skip
      refine Kd.R_lit_step (Kd.int .i64) (w0 := w) w.heap.size 3 (by rfl) (N := 14) rfl (xs := ([] : List Int)) (inner := []) (ok := fun _ => True) (okp := fun _ => True) ?hr (Reps.none _ _) (fun _ hk => hk) trivial HP.out.be HP.out.be.size (by simp) ?_
      case hr => first | (go_simp; done) | (go_simp; rfl)
      intro vl wl ho hb hg _
      have hB : Below _ _ wl := ⟨hg.os, hg.tape, hg.output, hg.size, fun k hk => hg.block k hk (by simp)⟩
      have HL := Aside0.mk ho
      replace HP := Aside0.mk (HP.out.below hB)
      clear ho hb hg hB
      obtain ⟨Al, cl, el⟩ := Kd.R_slice HL.out
      replace el : vl = .slice Al 0 cl := el
      subst el
      refine hK.out _ _ ⟨(blk_cell HP.out.b3 0).trans rfl, (blk_cell HP.out.b3 1).trans rfl⟩ (fun hHeld => ?_)
      clear hK K
      refine norm_ (a' := ?_) ?_ ?_
      rotate_left
      · show Act.put _ (some 14) _ = _
        simp only [Act.put, List.setIfInBounds_toArray, List.set_cons_zero, List.set_cons_succ, i64_w, i32_w]
        rfl
      refine two_ (i := 5) (j := 7) (Ni := some 17) (Nj := some 6) #[true, true, true, true, true, true, false, false, false] #[true, true, true, true, true, false, false, true, false] rfl rfl rfl rfl (by kernel_rfl) (by decide) (by decide) (fun K hK => ?_) (fun K hK => ?_)
      · skip
        refine Kd.R_append_rows_step (Kd.int .i64) (w0 := w) w.heap.size (by rfl) (.tmp 14) (.tmp 16) 23 3 (.int .i64 0) 8 rfl Try.underlying23 info3 rfl (by decide) (by omega) (.slice Al 0 cl) [] l1_1 _ _ _ (fun _ => True) (fun _ => False) rfl rfl HL.out (Kd.C_below H2.out HP.out.be) (fun _ _ h => h) (fun _ h => h.elim) (fun _ _ => trivial) HP.out.be HP.out.be.size (by simp; omega) ?_
        intro va wa ho hb hg hat
        replace HP := Aside0.mk (HP.out.grown hb hg (Kd.R_ne HL.out HP.out.b3 (by decide)) (Kd.R_ne HL.out HP.out.b4 (by decide)))
        rw [List.nil_append] at ho
        replace HL := Aside0.mk ho
        clear ho hb hg hat
        obtain ⟨g2, cap, eq2, hb2, _⟩ := Kd.R_form HL.out hv1
        subst eq2
        refine hK.out _ _ ⟨(blk_cell HP.out.b3 0).trans rfl, (blk_cell HP.out.b3 1).trans rfl⟩ (fun hHeld => ?_)
        clear hK K
        refine norm_ (a' := ?_) ?_ ?_
        rotate_left
        · show Act.put _ (some 17) _ = _
          simp only [Act.put, List.setIfInBounds_toArray, List.set_cons_zero, List.set_cons_succ, i64_w, i32_w]
          rfl
        refine pure_ (i := 6) (N := some 18) (v := ?_) (a' := ?_) #[true, true, true, true, true, true, true, false, false] rfl rfl (by kernel_rfl) (fun _ _ _ h => h) (Or.inl ⟨by rfl, ?_⟩) ?_ ?_
        rotate_left
        · intro w'
          go_simp
          with_reducible rfl
        rotate_left
        · simp only [Act.put, List.setIfInBounds_toArray, List.set_cons_zero, List.set_cons_succ, i64_w, i32_w]
          rfl
        refine one_ (i := 7) (N := some 6) #[true, true, true, true, true, true, true, true, false] rfl rfl (by kernel_rfl) (by decide) (fun K hK => ?_)
        refine box_step (by rfl) (N := 6) rfl (cs := #[.int .i64 0, .slice none 0 0]) (t := 31) ?hr ?_
        case hr => first | (go_simp; done) | (go_simp; rfl)
        intro g6 hg w6 hbox hb
        have N36 : g3 ≠ g6 := by rw [hg]; exact Nat.ne_of_lt (blk_lt HP.out.b3)
        have N46 : g4 ≠ g6 := by rw [hg]; exact Nat.ne_of_lt (blk_lt HP.out.b4)
        have L6 : w.heap.size ≤ g6 := by rw [hg]; exact HP.out.be.size
        replace HP := Aside0.mk (HP.out.below hb)
        replace HL := Aside0.mk (Kd.R_below HL.out hb)
        have B6 := Aside0.mk hbox
        clear hg hb hbox
        refine hK.out _ _ ⟨(blk_cell HP.out.b3 0).trans rfl, (blk_cell HP.out.b3 1).trans rfl⟩ (fun hHeld => ?_)
        clear hK K
        refine norm_ (a' := ?_) ?_ ?_
        rotate_left
        · show Act.put _ (some 6) _ = _
          simp only [Act.put, List.setIfInBounds_toArray, List.set_cons_zero, List.set_cons_succ, i64_w, i32_w]
          rfl
        refine one_ (i := 8) (N := none) #[true, true, true, true, true, true, true, true, true] rfl rfl (by kernel_rfl) (by decide) (fun K hK => ?_)
        have s60 := (blk_cell B6.out 0).trans rfl
        have s61 := (blk_cell B6.out 1).trans rfl
        have f60 := blk_frozen B6.out 0
        have f61 := blk_frozen B6.out 1
        refine skip_ (w1 := ?_) (by rfl) rfl ?_ ?_
        rotate_left
        · go_simp
          rfl
        refine hK.out _ _ ⟨(cell_far (p := ⟨g6, _, none⟩) N36 _).trans ((cell_far (p := ⟨g6, _, none⟩) N36 _).trans hHeld.1), (cell_far (p := ⟨g6, _, none⟩) N36 _).trans ((cell_far (p := ⟨g6, _, none⟩) N36 _).trans hHeld.2)⟩ (fun hHeld => ?_)
        clear hK K
        refine done_ (by kernel_rfl) ?_
        have q6 := blk_put (cs := #[.int .i64 a1_0, .slice none 0 0]) (blk_put (cs := #[.int .i64 0, .slice none 0 0]) B6.out 0 (.int .i64 a1_0) rfl) 1 (.slice (some ⟨g2, 0, none⟩) l1_1.length cap) rfl
        have qL := Kd.R_set (Kd.R_set HL.out B6.out (by decide) 0 (.int .i64 a1_0)) (blk_put (cs := #[.int .i64 0, .slice none 0 0]) B6.out 0 (.int .i64 a1_0) rfl) (by decide) 1 (.slice (some ⟨g2, 0, none⟩) l1_1.length cap)
        have qP : Pre w ((w6.setCell ⟨g6, 0, none⟩ (.int .i64 a1_0)).setCell ⟨g6, 1, none⟩ (.slice (some ⟨g2, 0, none⟩) l1_1.length cap)) g3 g4 #[.int .i64 a1_0, .slice A1_1 l1_1.length c1_1] #[.int .i64 0, .slice none 0 0] := ⟨blk_far (blk_far HP.out.b3 N36 _) N36 _, blk_far (blk_far HP.out.b4 N46 _) N46 _, below_set (below_set HP.out.be L6) L6, HP.out.l3, HP.out.l4, HP.out.ne⟩
        clear hHeld HP HL B6 s60 s61 f60 f61 q0 q1 fq0 fq1
        generalize (w6.setCell ⟨g6, 0, none⟩ (.int .i64 a1_0)).setCell ⟨g6, 1, none⟩ (.slice (some ⟨g2, 0, none⟩) l1_1.length cap) = wn at q6 qL qP ⊢
        have HP := Aside0.mk qP
        have HL := Aside0.mk qL
        have B6 := Aside0.mk q6
        clear q6 qL qP
        have N42 : g4 ≠ g2 := fun e => Kd.R_ne HL.out HP.out.b4 (by decide) (by rw [e]; rfl)
        go_wp2_with fail
        refine (advance_own (fun _ => True) g6 ad0 c0 l0 a1_0 g2 cap l1_1 w _ H1.out HC1.out HP.out.be B6.out L6 HL.out hok).mono ?_
        rintro e wv hA
        rw [← HST.out] at hA
        obtain ⟨rfl, hA⟩ := hA
        have HA := Aside0.mk hA
        have B4 := Aside0.mk ((HA.out.keep g4 (blk_lt HP.out.b4) N46 N42).trans HP.out.b4)
        clear hA
        have q0 := (blk_cell B4.out 0).trans rfl
        have q1 := (blk_cell B4.out 1).trans rfl
        have fq0 := blk_frozen B4.out 0
        have fq1 := blk_frozen B4.out 1
        have y0 : wv.cell? ⟨g6, 0, none⟩ = some (.int .i64 ln) := (blk_cell HA.out.box 0).trans rfl
        have y1 : wv.cell? ⟨g6, 1, none⟩ = some (.slice (some ⟨g2, 0, none⟩) l1_1.length cap) := (blk_cell HA.out.box 1).trans rfl
        have L4 := HP.out.l4
        cases bn with
        | true =>
          rw [if_pos ⟨hok, rfl⟩] at h
          simp only [Prod.mk.injEq] at h
          obtain ⟨rfl, rfl, rfl⟩ := h
          go_wp2
          refine bodyPost_ret (results_ct rfl _ _ g4 31 #[.int .i64 ln, .slice (some ⟨g2, 0, none⟩) l1_1.length cap] (0, 0) _ rfl (blk_put (cs := #[.int .i64 ln, .slice none 0 0]) (blk_put (cs := #[.int .i64 0, .slice none 0 0]) B4.out 0 _ rfl) 1 _ rfl) Try.underlying31 rfl (by kernel_rfl)) rfl ?_
          exact ⟨_, rfl, Kd.R_set (Kd.R_set HA.out.row B4.out (by decide) 0 _) (blk_put (cs := #[.int .i64 0, .slice none 0 0]) B4.out 0 _ rfl) (by decide) 1 _, below_set (below_set HA.out.be L4) L4⟩
        | false =>
          rw [if_neg (fun h_ => by have := h_.2; simp at this)] at h
          simp only [Prod.mk.injEq] at h
          obtain ⟨rfl, rfl, rfl⟩ := h
          go_wp2
          refine bodyPost_ret (results_ct rfl _ _ g4 31 #[.int .i64 0, .slice none 0 0] (0, 0) _ rfl (blk_put (cs := #[.int .i64 0, .slice none 0 0]) (blk_put (cs := #[.int .i64 0, .slice none 0 0]) B4.out 0 _ rfl) 1 _ rfl) Try.underlying31 rfl (by kernel_rfl)) rfl ?_
          exact ⟨_, rfl, Kd.R_nil _ _ _ _ _, below_set (below_set HA.out.be L4) L4⟩
      · skip
        refine box_step (by rfl) (N := 6) rfl (cs := #[.int .i64 0, .slice none 0 0]) (t := 31) ?hr ?_
        case hr => first | (go_simp; done) | (go_simp; rfl)
        intro g6 hg w6 hbox hb
        have N36 : g3 ≠ g6 := by rw [hg]; exact Nat.ne_of_lt (blk_lt HP.out.b3)
        have N46 : g4 ≠ g6 := by rw [hg]; exact Nat.ne_of_lt (blk_lt HP.out.b4)
        have L6 : w.heap.size ≤ g6 := by rw [hg]; exact HP.out.be.size
        replace HP := Aside0.mk (HP.out.below hb)
        replace HL := Aside0.mk (Kd.R_below HL.out hb)
        have B6 := Aside0.mk hbox
        clear hg hb hbox
        refine hK.out _ _ ⟨(blk_cell HP.out.b3 0).trans rfl, (blk_cell HP.out.b3 1).trans rfl⟩ (fun hHeld => ?_)
        clear hK K
        refine norm_ (a' := ?_) ?_ ?_
        rotate_left
        · show Act.put _ (some 6) _ = _
          simp only [Act.put, List.setIfInBounds_toArray, List.set_cons_zero, List.set_cons_succ, i64_w, i32_w]
          rfl
        refine one_ (i := 5) (N := some 17) #[true, true, true, true, true, true, false, true, false] rfl rfl (by kernel_rfl) (by decide) (fun K hK => ?_)
        refine Kd.R_append_rows_step (Kd.int .i64) (w0 := w) w.heap.size (by rfl) (.tmp 14) (.tmp 16) 23 3 (.int .i64 0) 8 rfl Try.underlying23 info3 rfl (by decide) (by omega) (.slice Al 0 cl) [] l1_1 _ _ _ (fun _ => True) (fun _ => False) rfl rfl HL.out (Kd.C_below H2.out HP.out.be) (fun _ _ h => h) (fun _ h => h.elim) (fun _ _ => trivial) HP.out.be HP.out.be.size (by simp; omega) ?_
        intro va wa ho hb hg hat
        replace HP := Aside0.mk (HP.out.grown hb hg (Kd.R_ne HL.out HP.out.b3 (by decide)) (Kd.R_ne HL.out HP.out.b4 (by decide)))
        replace B6 := Aside0.mk (blk_grown B6.out hg (Kd.R_ne HL.out B6.out (by decide)))
        rw [List.nil_append] at ho
        replace HL := Aside0.mk ho
        clear ho hb hg hat
        obtain ⟨g2, cap, eq2, hb2, _⟩ := Kd.R_form HL.out hv1
        subst eq2
        refine hK.out _ _ ⟨(blk_cell HP.out.b3 0).trans rfl, (blk_cell HP.out.b3 1).trans rfl⟩ (fun hHeld => ?_)
        clear hK K
        refine norm_ (a' := ?_) ?_ ?_
        rotate_left
        · show Act.put _ (some 17) _ = _
          simp only [Act.put, List.setIfInBounds_toArray, List.set_cons_zero, List.set_cons_succ, i64_w, i32_w]
          rfl
        refine pure_ (i := 6) (N := some 18) (v := ?_) (a' := ?_) #[true, true, true, true, true, true, true, true, false] rfl rfl (by kernel_rfl) (fun _ _ _ h => h) (Or.inl ⟨by rfl, ?_⟩) ?_ ?_
        rotate_left
        · intro w'
          go_simp
          with_reducible rfl
        rotate_left
        · simp only [Act.put, List.setIfInBounds_toArray, List.set_cons_zero, List.set_cons_succ, i64_w, i32_w]
          rfl
        refine one_ (i := 8) (N := none) #[true, true, true, true, true, true, true, true, true] rfl rfl (by kernel_rfl) (by decide) (fun K hK => ?_)
        have s60 := (blk_cell B6.out 0).trans rfl
        have s61 := (blk_cell B6.out 1).trans rfl
        have f60 := blk_frozen B6.out 0
        have f61 := blk_frozen B6.out 1
        refine skip_ (w1 := ?_) (by rfl) rfl ?_ ?_
        rotate_left
        · go_simp
          rfl
        refine hK.out _ _ ⟨(cell_far (p := ⟨g6, _, none⟩) N36 _).trans ((cell_far (p := ⟨g6, _, none⟩) N36 _).trans hHeld.1), (cell_far (p := ⟨g6, _, none⟩) N36 _).trans ((cell_far (p := ⟨g6, _, none⟩) N36 _).trans hHeld.2)⟩ (fun hHeld => ?_)
        clear hK K
        refine done_ (by kernel_rfl) ?_
        have q6 := blk_put (cs := #[.int .i64 a1_0, .slice none 0 0]) (blk_put (cs := #[.int .i64 0, .slice none 0 0]) B6.out 0 (.int .i64 a1_0) rfl) 1 (.slice (some ⟨g2, 0, none⟩) l1_1.length cap) rfl
        have qL := Kd.R_set (Kd.R_set HL.out B6.out (by decide) 0 (.int .i64 a1_0)) (blk_put (cs := #[.int .i64 0, .slice none 0 0]) B6.out 0 (.int .i64 a1_0) rfl) (by decide) 1 (.slice (some ⟨g2, 0, none⟩) l1_1.length cap)
        have qP : Pre w ((wa.setCell ⟨g6, 0, none⟩ (.int .i64 a1_0)).setCell ⟨g6, 1, none⟩ (.slice (some ⟨g2, 0, none⟩) l1_1.length cap)) g3 g4 #[.int .i64 a1_0, .slice A1_1 l1_1.length c1_1] #[.int .i64 0, .slice none 0 0] := ⟨blk_far (blk_far HP.out.b3 N36 _) N36 _, blk_far (blk_far HP.out.b4 N46 _) N46 _, below_set (below_set HP.out.be L6) L6, HP.out.l3, HP.out.l4, HP.out.ne⟩
        clear hHeld HP HL B6 s60 s61 f60 f61 q0 q1 fq0 fq1
        generalize (wa.setCell ⟨g6, 0, none⟩ (.int .i64 a1_0)).setCell ⟨g6, 1, none⟩ (.slice (some ⟨g2, 0, none⟩) l1_1.length cap) = wn at q6 qL qP ⊢
        have HP := Aside0.mk qP
        have HL := Aside0.mk qL
        have B6 := Aside0.mk q6
        clear q6 qL qP
        have N42 : g4 ≠ g2 := fun e => Kd.R_ne HL.out HP.out.b4 (by decide) (by rw [e]; rfl)
        go_wp2_with fail
        refine (advance_own (fun _ => True) g6 ad0 c0 l0 a1_0 g2 cap l1_1 w _ H1.out HC1.out HP.out.be B6.out L6 HL.out hok).mono ?_
        rintro e wv hA
        rw [← HST.out] at hA
        obtain ⟨rfl, hA⟩ := hA
        have HA := Aside0.mk hA
        have B4 := Aside0.mk ((HA.out.keep g4 (blk_lt HP.out.b4) N46 N42).trans HP.out.b4)
        clear hA
        have q0 := (blk_cell B4.out 0).trans rfl
        have q1 := (blk_cell B4.out 1).trans rfl
        have fq0 := blk_frozen B4.out 0
        have fq1 := blk_frozen B4.out 1
        have y0 : wv.cell? ⟨g6, 0, none⟩ = some (.int .i64 ln) := (blk_cell HA.out.box 0).trans rfl
        have y1 : wv.cell? ⟨g6, 1, none⟩ = some (.slice (some ⟨g2, 0, none⟩) l1_1.length cap) := (blk_cell HA.out.box 1).trans rfl
        have L4 := HP.out.l4
        cases bn with
        | true =>
          rw [if_pos ⟨hok, rfl⟩] at h
          simp only [Prod.mk.injEq] at h
          obtain ⟨rfl, rfl, rfl⟩ := h
          go_wp2
          refine bodyPost_ret (results_ct rfl _ _ g4 31 #[.int .i64 ln, .slice (some ⟨g2, 0, none⟩) l1_1.length cap] (0, 0) _ rfl (blk_put (cs := #[.int .i64 ln, .slice none 0 0]) (blk_put (cs := #[.int .i64 0, .slice none 0 0]) B4.out 0 _ rfl) 1 _ rfl) Try.underlying31 rfl (by kernel_rfl)) rfl ?_
          exact ⟨_, rfl, Kd.R_set (Kd.R_set HA.out.row B4.out (by decide) 0 _) (blk_put (cs := #[.int .i64 0, .slice none 0 0]) B4.out 0 _ rfl) (by decide) 1 _, below_set (below_set HA.out.be L4) L4⟩
        | false =>
          rw [if_neg (fun h_ => by have := h_.2; simp at this)] at h
          simp only [Prod.mk.injEq] at h
          obtain ⟨rfl, rfl, rfl⟩ := h
          go_wp2
          refine bodyPost_ret (results_ct rfl _ _ g4 31 #[.int .i64 0, .slice none 0 0] (0, 0) _ rfl (blk_put (cs := #[.int .i64 0, .slice none 0 0]) (blk_put (cs := #[.int .i64 0, .slice none 0 0]) B4.out 0 _ rfl) 1 _ rfl) Try.underlying31 rfl (by kernel_rfl)) rfl ?_
          exact ⟨_, rfl, Kd.R_nil _ _ _ _ _, below_set (below_set HA.out.be L4) L4⟩
    · skip
      refine box_step (by rfl) (N := 6) rfl (cs := #[.int .i64 0, .slice none 0 0]) (t := 31) ?hr ?_
      case hr => first | (go_simp; done) | (go_simp; rfl)
      intro g6 hg w6 hbox hb
      have N36 : g3 ≠ g6 := by rw [hg]; exact Nat.ne_of_lt (blk_lt HP.out.b3)
      have N46 : g4 ≠ g6 := by rw [hg]; exact Nat.ne_of_lt (blk_lt HP.out.b4)
      have L6 : w.heap.size ≤ g6 := by rw [hg]; exact HP.out.be.size
      replace HP := Aside0.mk (HP.out.below hb)
      have B6 := Aside0.mk hbox
      clear hg hb hbox
      refine hK.out _ _ ⟨(blk_cell HP.out.b3 0).trans rfl, (blk_cell HP.out.b3 1).trans rfl⟩ (fun hHeld => ?_)
      clear hK K
      refine norm_ (a' := ?_) ?_ ?_
      rotate_left
      · show Act.put _ (some 6) _ = _
        simp only [Act.put, List.setIfInBounds_toArray, List.set_cons_zero, List.set_cons_succ, i64_w, i32_w]
        rfl
      refine one_ (i := 2) (N := some 14) #[true, true, true, true, true, false, false, true, false] rfl rfl (by kernel_rfl) (by decide) (fun K hK => ?_)
      refine Kd.R_lit_step (Kd.int .i64) (w0 := w) w.heap.size 3 (by rfl) (N := 14) rfl (xs := ([] : List Int)) (inner := []) (ok := fun _ => True) (okp := fun _ => True) ?hr (Reps.none _ _) (fun _ hk => hk) trivial HP.out.be HP.out.be.size (by simp) ?_
      case hr => first | (go_simp; done) | (go_simp; rfl)
      intro vl wl ho hb hg _
      have hB : Below _ _ wl := ⟨hg.os, hg.tape, hg.output, hg.size, fun k hk => hg.block k hk (by simp)⟩
      have HL := Aside0.mk ho
      replace HP := Aside0.mk (HP.out.below hB)
      replace B6 := Aside0.mk (blk_below B6.out hB)
      clear ho hb hg hB
      obtain ⟨Al, cl, el⟩ := Kd.R_slice HL.out
      replace el : vl = .slice Al 0 cl := el
      subst el
      refine hK.out _ _ ⟨(blk_cell HP.out.b3 0).trans rfl, (blk_cell HP.out.b3 1).trans rfl⟩ (fun hHeld => ?_)
      clear hK K
      refine norm_ (a' := ?_) ?_ ?_
      rotate_left
      · show Act.put _ (some 14) _ = _
        simp only [Act.put, List.setIfInBounds_toArray, List.set_cons_zero, List.set_cons_succ, i64_w, i32_w]
        rfl
      refine one_ (i := 5) (N := some 17) #[true, true, true, true, true, true, false, true, false] rfl rfl (by kernel_rfl) (by decide) (fun K hK => ?_)
      refine Kd.R_append_rows_step (Kd.int .i64) (w0 := w) w.heap.size (by rfl) (.tmp 14) (.tmp 16) 23 3 (.int .i64 0) 8 rfl Try.underlying23 info3 rfl (by decide) (by omega) (.slice Al 0 cl) [] l1_1 _ _ _ (fun _ => True) (fun _ => False) rfl rfl HL.out (Kd.C_below H2.out HP.out.be) (fun _ _ h => h) (fun _ h => h.elim) (fun _ _ => trivial) HP.out.be HP.out.be.size (by simp; omega) ?_
      intro va wa ho hb hg hat
      replace HP := Aside0.mk (HP.out.grown hb hg (Kd.R_ne HL.out HP.out.b3 (by decide)) (Kd.R_ne HL.out HP.out.b4 (by decide)))
      replace B6 := Aside0.mk (blk_grown B6.out hg (Kd.R_ne HL.out B6.out (by decide)))
      rw [List.nil_append] at ho
      replace HL := Aside0.mk ho
      clear ho hb hg hat
      obtain ⟨g2, cap, eq2, hb2, _⟩ := Kd.R_form HL.out hv1
      subst eq2
      refine hK.out _ _ ⟨(blk_cell HP.out.b3 0).trans rfl, (blk_cell HP.out.b3 1).trans rfl⟩ (fun hHeld => ?_)
      clear hK K
      refine norm_ (a' := ?_) ?_ ?_
      rotate_left
      · show Act.put _ (some 17) _ = _
        simp only [Act.put, List.setIfInBounds_toArray, List.set_cons_zero, List.set_cons_succ, i64_w, i32_w]
        rfl
      refine pure_ (i := 6) (N := some 18) (v := ?_) (a' := ?_) #[true, true, true, true, true, true, true, true, false] rfl rfl (by kernel_rfl) (fun _ _ _ h => h) (Or.inl ⟨by rfl, ?_⟩) ?_ ?_
      rotate_left
      · intro w'
        go_simp
        with_reducible rfl
      rotate_left
      · simp only [Act.put, List.setIfInBounds_toArray, List.set_cons_zero, List.set_cons_succ, i64_w, i32_w]
        rfl
      refine one_ (i := 8) (N := none) #[true, true, true, true, true, true, true, true, true] rfl rfl (by kernel_rfl) (by decide) (fun K hK => ?_)
      have s60 := (blk_cell B6.out 0).trans rfl
      have s61 := (blk_cell B6.out 1).trans rfl
      have f60 := blk_frozen B6.out 0
      have f61 := blk_frozen B6.out 1
      refine skip_ (w1 := ?_) (by rfl) rfl ?_ ?_
      rotate_left
      · go_simp
        rfl
      refine hK.out _ _ ⟨(cell_far (p := ⟨g6, _, none⟩) N36 _).trans ((cell_far (p := ⟨g6, _, none⟩) N36 _).trans hHeld.1), (cell_far (p := ⟨g6, _, none⟩) N36 _).trans ((cell_far (p := ⟨g6, _, none⟩) N36 _).trans hHeld.2)⟩ (fun hHeld => ?_)
      clear hK K
      refine done_ (by kernel_rfl) ?_
      have q6 := blk_put (cs := #[.int .i64 a1_0, .slice none 0 0]) (blk_put (cs := #[.int .i64 0, .slice none 0 0]) B6.out 0 (.int .i64 a1_0) rfl) 1 (.slice (some ⟨g2, 0, none⟩) l1_1.length cap) rfl
      have qL := Kd.R_set (Kd.R_set HL.out B6.out (by decide) 0 (.int .i64 a1_0)) (blk_put (cs := #[.int .i64 0, .slice none 0 0]) B6.out 0 (.int .i64 a1_0) rfl) (by decide) 1 (.slice (some ⟨g2, 0, none⟩) l1_1.length cap)
      have qP : Pre w ((wa.setCell ⟨g6, 0, none⟩ (.int .i64 a1_0)).setCell ⟨g6, 1, none⟩ (.slice (some ⟨g2, 0, none⟩) l1_1.length cap)) g3 g4 #[.int .i64 a1_0, .slice A1_1 l1_1.length c1_1] #[.int .i64 0, .slice none 0 0] := ⟨blk_far (blk_far HP.out.b3 N36 _) N36 _, blk_far (blk_far HP.out.b4 N46 _) N46 _, below_set (below_set HP.out.be L6) L6, HP.out.l3, HP.out.l4, HP.out.ne⟩
      clear hHeld HP HL B6 s60 s61 f60 f61 q0 q1 fq0 fq1
      generalize (wa.setCell ⟨g6, 0, none⟩ (.int .i64 a1_0)).setCell ⟨g6, 1, none⟩ (.slice (some ⟨g2, 0, none⟩) l1_1.length cap) = wn at q6 qL qP ⊢
      have HP := Aside0.mk qP
      have HL := Aside0.mk qL
      have B6 := Aside0.mk q6
      clear q6 qL qP
      have N42 : g4 ≠ g2 := fun e => Kd.R_ne HL.out HP.out.b4 (by decide) (by rw [e]; rfl)
      go_wp2_with fail
      refine (advance_own (fun _ => True) g6 ad0 c0 l0 a1_0 g2 cap l1_1 w _ H1.out HC1.out HP.out.be B6.out L6 HL.out hok).mono ?_
      rintro e wv hA
      rw [← HST.out] at hA
      obtain ⟨rfl, hA⟩ := hA
      have HA := Aside0.mk hA
      have B4 := Aside0.mk ((HA.out.keep g4 (blk_lt HP.out.b4) N46 N42).trans HP.out.b4)
      clear hA
      have q0 := (blk_cell B4.out 0).trans rfl
      have q1 := (blk_cell B4.out 1).trans rfl
      have fq0 := blk_frozen B4.out 0
      have fq1 := blk_frozen B4.out 1
      have y0 : wv.cell? ⟨g6, 0, none⟩ = some (.int .i64 ln) := (blk_cell HA.out.box 0).trans rfl
      have y1 : wv.cell? ⟨g6, 1, none⟩ = some (.slice (some ⟨g2, 0, none⟩) l1_1.length cap) := (blk_cell HA.out.box 1).trans rfl
      have L4 := HP.out.l4
      cases bn with
      | true =>
        rw [if_pos ⟨hok, rfl⟩] at h
        simp only [Prod.mk.injEq] at h
        obtain ⟨rfl, rfl, rfl⟩ := h
        go_wp2
        refine bodyPost_ret (results_ct rfl _ _ g4 31 #[.int .i64 ln, .slice (some ⟨g2, 0, none⟩) l1_1.length cap] (0, 0) _ rfl (blk_put (cs := #[.int .i64 ln, .slice none 0 0]) (blk_put (cs := #[.int .i64 0, .slice none 0 0]) B4.out 0 _ rfl) 1 _ rfl) Try.underlying31 rfl (by kernel_rfl)) rfl ?_
        exact ⟨_, rfl, Kd.R_set (Kd.R_set HA.out.row B4.out (by decide) 0 _) (blk_put (cs := #[.int .i64 0, .slice none 0 0]) B4.out 0 _ rfl) (by decide) 1 _, below_set (below_set HA.out.be L4) L4⟩
      | false =>
        rw [if_neg (fun h_ => by have := h_.2; simp at this)] at h
        simp only [Prod.mk.injEq] at h
        obtain ⟨rfl, rfl, rfl⟩ := h
        go_wp2
        refine bodyPost_ret (results_ct rfl _ _ g4 31 #[.int .i64 0, .slice none 0 0] (0, 0) _ rfl (blk_put (cs := #[.int .i64 0, .slice none 0 0]) (blk_put (cs := #[.int .i64 0, .slice none 0 0]) B4.out 0 _ rfl) 1 _ rfl) Try.underlying31 rfl (by kernel_rfl)) rfl ?_
        exact ⟨_, rfl, Kd.R_nil _ _ _ _ _, below_set (below_set HA.out.be L4) L4⟩
  · rw [if_neg (fun h_ => hok h_.1)] at h
    simp only [Prod.mk.injEq] at h
    obtain ⟨rfl, rfl, rfl⟩ := h
    have HK2 : Aside0 (impl_IsCounterState.f K l0 a1_0 l1_1 = some false) := ⟨by rw [HK.out]; exact congrArg some (decide_eq_false hok)⟩
    clear HK
    go_enter Try.func20, Try.ntmps20
    go_wp2_with (first
      | ((with_reducible refine gate_dst (N := 3) rfl ?_); refine box_event ?hg (N := 3) ?hd (cs := #[.int .i64 a1_0, .slice A1_1 l1_1.length c1_1]) (t := 31) ?hr ?_; (case hd => rfl); (case hg => rfl); (case hr => first | (go_simp; done) | (go_simp; rfl)); intro g3 hg w3 hbox hb; have B3 := Aside0.mk hbox; have L3 : w.heap.size ≤ g3 := (by rw [hg]; exact Nat.le_refl _); have HB3 := Aside0.mk hb; clear hg hbox hb)
      | ((with_reducible refine gate_dst (N := 4) rfl ?_); refine box_event ?hg (N := 4) ?hd (cs := #[.int .i64 0, .slice none 0 0]) (t := 31) ?hr ?_; (case hd => rfl); (case hg => rfl); (case hr => first | (go_simp; done) | (go_simp; rfl)); intro g4 hg w4 hbox hb; have HP : Aside0 (Pre w w4 g3 g4 #[.int .i64 a1_0, .slice A1_1 l1_1.length c1_1] #[.int .i64 0, .slice none 0 0]) := ⟨⟨blk_below B3.out hb, hbox, below_step HB3.out hb, L3, (by rw [hg]; exact HB3.out.size), (by rw [hg]; exact Nat.ne_of_lt (blk_lt B3.out))⟩⟩; clear hg hbox hb B3 HB3; have z0 := (blk_cell HP.out.b3 0).trans rfl; have z1 := (blk_cell HP.out.b3 1).trans rfl)
      | fail)
    refine (impl_IsCounterState.calls K _ _ l0 a1_0 _ _ l1_1 false _ (Kd.C_below H1.out HP.out.be) HC1.out (Kd.C_below H2.out HP.out.be) HC2.out HK2.out).mono ?_
    rintro e w5 ⟨rfl, hb⟩
    replace HP := Aside0.mk (HP.out.below hb)
    have q0 := (blk_cell HP.out.b4 0).trans rfl
    have q1 := (blk_cell HP.out.b4 1).trans rfl
    have fq0 := blk_frozen HP.out.b4 0
    have fq1 := blk_frozen HP.out.b4 1
    clear hb z0 z1
    go_wp2
    refine bodyPost_ret (results_ct rfl _ _ g4 31 #[.int .i64 0, .slice none 0 0] (0, 0) _ rfl (blk_put (cs := #[.int .i64 0, .slice none 0 0]) (blk_put (cs := #[.int .i64 0, .slice none 0 0]) HP.out.b4 0 _ rfl) 1 _ rfl) Try.underlying31 rfl (by kernel_rfl)) rfl ?_
    exact ⟨_, rfl, Kd.R_nil _ _ _ _ _, below_set (below_set HP.out.be HP.out.l4) HP.out.l4⟩
end Go.Proofs.Ytbcphkblieeemaa.P
