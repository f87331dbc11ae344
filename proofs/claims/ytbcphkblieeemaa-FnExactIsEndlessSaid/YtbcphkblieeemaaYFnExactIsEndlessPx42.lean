/- The walk of impl.statesOf (printed by gen_run.py). -/
import Derived.Test.YtbcphkblieeemaaZFnExactIsEndless0
import Derived.Test.YtbcphkblieeemaaYFnExactIsEndlessVRun
namespace Go.Proofs.Ytbcphkblieeemaa.P
open Go.RowKit Go.Proofs.YtbcphkblieeemaaW.PrintWords Go.Proofs.YtbcphkblieeemaaW.PrintLast Go.Proofs.YtbcphkblieeemaaW.PrintMore Go.Proofs.Ytbcphkblieeemaa.Own Go.Proofs.Ytbcphkblieeemaa.A
set_option linter.unusedVariables false
set_option linter.unusedSimpArgs false
/-! ### impl_statesOf: function 53 -/
def impl_statesOf.f (k : Nat) (l : List S55) (line : Int) (vs : List Int) (n : Int) : Option (List S31 × Bool) := if l.length ≤ 1048576 ∧ vs.length ≤ 1048576 ∧ StOk l line vs ∧ 0 ≤ n ∧ n ≤ 2000 then some (statesI l n.toNat line vs) else none
theorem impl_statesOf.mono : ∀ a0 a1 a2 a3 k, LeO (impl_statesOf.f k a0 a1 a2 a3) (impl_statesOf.f (k + 1) a0 a1 a2 a3) := fun _ _ _ _ _ => LeO.refl _
set_option maxHeartbeats 4000000 in
set_option maxRecDepth 100000 in
theorem impl_statesOf.calls (k : Nat) (A0 : Option Addr) (c0 : Nat) (l0 : List S55) (a1_0 : Int) (A1_1 : Option Addr) (c1_1 : Nat) (l1_1 : List Int) (a2 : Int) (r1 : List S31) (r2 : Bool) (w : World) (hr0 : Kd.C k55 w A0 l0.length l0) (hc0 : l0.length ≤ c0) (hr1_1 : Kd.C (Kd.int .i64) w A1_1 l1_1.length l1_1) (hc1_1 : l1_1.length ≤ c1_1) (h : impl_statesOf.f k l0 a1_0 l1_1 a2 = some (r1, r2)) :
    Calls Try.prog 53 #[.slice A0 l0.length c0, .agg #[.int .i64 a1_0, .slice A1_1 l1_1.length c1_1], .int .i64 a2] w fun e w' => ∃ v0_ : Value, e = .returned (.tuple #[v0_, .bool r2]) ∧ Kd.S k31 31 w' w.heap.size (fun _ => True) v0_ r1 ∧ Below w.heap.size w w' := by
  unfold impl_statesOf.f at h
  by_cases hsm : l0.length ≤ 1048576 ∧ l1_1.length ≤ 1048576 ∧ StOk l0 a1_0 l1_1 ∧ 0 ≤ a2 ∧ a2 ≤ 2000
  case neg => rw [if_neg hsm] at h; simp at h
  rw [if_pos hsm] at h
  replace h := Option.some.inj h
  obtain ⟨_, _, hok, hn0, hn1⟩ := hsm
  have H1 := Aside0.mk hr0
  have H2 := Aside0.mk hr1_1
  have HC1 := Aside0.mk hc0
  have HC2 := Aside0.mk hc1_1
  have hu := Try.underlying31
  clear hr0 hr1_1 hc0 hc1_1
  obtain ⟨N, rfl⟩ := Int.eq_ofNat_of_zero_le hn0
  rw [Int.toNat_natCast] at h
  have H := Aside0.mk h
  have SO0 := Aside0.mk hok
  clear h
  have hv1 : 0 < l1_1.length := by have := hok.1.2.1; omega
  have hv4 : l1_1.length ≤ 4 := by have := hok.1.2.2.1; omega
  obtain ⟨ad0, ea0, -⟩ := at_T55 H1.out (0 : Int) (by omega) (by have := hok.1.2.2.2.1; omega)
  subst ea0
  clear hok
  go_enter Try.func53, Try.ntmps53
  go_wp2_with (first
    | ((with_reducible refine gate_dst (N := 4) rfl ?_); refine box_event ?hg (N := 4) ?hd (cs := #[.int .i64 a1_0, .slice A1_1 l1_1.length c1_1]) (t := 31) ?hr ?_; (case hd => rfl); (case hg => rfl); (case hr => first | (go_simp; done) | (go_simp; rfl)); intro g3 hg w3 hbox hb; have B3 := Aside0.mk hbox; have HB := Aside0.mk hb; have L3 : Aside0 (w.heap.size ≤ g3) := ⟨(by rw [hg]; exact Nat.le_refl _)⟩; clear hg hbox hb; have z0 := (blk_cell B3.out 0).trans rfl; have z1 := (blk_cell B3.out 1).trans rfl)
    | ((with_reducible refine gate_dst (N := 11) rfl ?_); refine Kd.S_lit k31 (w0 := w) w.heap.size 31 rfl (N := 11) rfl (xs := ([] : List S31)) (inner := []) (ok := fun _ => True) (okp := fun _ => True) ?hr (Reps.none _ _) (fun _ hk => hk) trivial HB.out HB.out.size (by simp) ?_; (case hr => first | (go_simp; done) | (go_simp; rfl)); intro vl wl ho hb hg _; replace B3 := Aside0.mk (blk_grown B3.out hg (by simp)); have OUT := Aside0.mk ho; replace HB := Aside0.mk hb; clear ho hb hg z0 z1)
    | fail)
  refine start_ (n := 9) (S := fun w' => w'.cell? ⟨g3, 0, none⟩ = some (.int .i64 a1_0) ∧ w'.cell? ⟨g3, 1, none⟩ = some (.slice A1_1 l1_1.length c1_1)) (ds := []) #[false, false, false, false, false, false, false, false, false] (by kernel_rfl) rfl rfl ⟨(blk_cell B3.out 0).trans rfl, (blk_cell B3.out 1).trans rfl⟩ (fun hHeld => ?_)
  refine Own.anew_ (wN := wl) (by repeat (first | with_reducible exact Below.refl _ _ | with_reducible apply below_alloc | with_reducible apply pw_below_drewN | with_reducible apply below_drew1)) hHeld (fun wz hzb hHeld => ?_)
  have HZB := Aside0.mk hzb
  have BZ3 := Aside0.mk (blk_below B3.out hzb)
  have SRC := Aside0.mk (Kd.C_below (Kd.C_below H2.out HB.out) hzb)
  have HZ := Aside0.mk (Below.refl wz.heap.size wz)
  clear hzb
  refine pure_ (i := 0) (N := some 12) (v := ?_) (a' := ?_) #[true, false, false, false, false, false, false, false, false] rfl rfl (by kernel_rfl) (fun _ _ _ h => h) (Or.inl ⟨by rfl, ?_⟩) ?_ ?_
  rotate_left
  · intro w'
    go_simp
    with_reducible rfl
  rotate_left
  · simp only [Act.put, List.setIfInBounds_toArray, List.set_cons_zero, List.set_cons_succ, i64_w, i32_w]
    rfl
  refine pure_ (i := 3) (N := some 15) (v := ?_) (a' := ?_) #[true, false, false, true, false, false, false, false, false] rfl rfl (by kernel_rfl) (fun _ _ _ h => h) (Or.inl ⟨by rfl, ?_⟩) ?_ ?_
  rotate_left
  · intro w'
    go_simp
    with_reducible rfl
  rotate_left
  · simp only [Act.put, List.setIfInBounds_toArray, List.set_cons_zero, List.set_cons_succ, i64_w, i32_w]
    rfl
  refine take_ (i := 1) (N := some 13) (v := ?_) (a' := ?_) #[true, true, false, true, false, false, false, false, false] rfl rfl (by kernel_rfl) (fun _ _ _ h => h) (Or.inl ⟨by rfl, ?_⟩) hHeld ?_ ?_
  rotate_left
  · rintro w' ⟨s0, s1⟩
    go_simp
    with_reducible rfl
  rotate_left
  · simp only [Act.put, List.setIfInBounds_toArray, List.set_cons_zero, List.set_cons_succ, i64_w, i32_w]
    rfl
  refine take_ (i := 4) (N := some 16) (v := ?_) (a' := ?_) #[true, true, false, true, true, false, false, false, false] rfl rfl (by kernel_rfl) (fun _ _ _ h => h) (Or.inl ⟨by rfl, ?_⟩) hHeld ?_ ?_
  rotate_left
  · rintro w' ⟨s0, s1⟩
    go_simp
    with_reducible rfl
  rotate_left
  · simp only [Act.put, List.setIfInBounds_toArray, List.set_cons_zero, List.set_cons_succ, i64_w, i32_w]
    rfl
  refine join_ (σ := Value × Nat × Nat × Nat) 1 #[true, true, true, true, true, true, true, true, false] (fun s_ => [(14, s_.1), (17, .slice (some ⟨s_.2.1, 0, none⟩) l1_1.length s_.2.2.1), (9, .pointer (some ⟨s_.2.2.2, 0, none⟩)), (18, .agg #[.int .i64 a1_0, .slice (some ⟨s_.2.1, 0, none⟩) l1_1.length s_.2.2.1])]) (fun s_ w' => (w'.cell? ⟨g3, 0, none⟩ = some (.int .i64 a1_0) ∧ w'.cell? ⟨g3, 1, none⟩ = some (.slice A1_1 l1_1.length c1_1)) ∧ Kd.R (Kd.int .i64) 3 w' wz.heap.size (fun _ => True) (.slice (some ⟨s_.2.1, 0, none⟩) l1_1.length s_.2.2.1) l1_1 ∧ w'.heap[s_.2.2.2]? = some (.cells #[.int .i64 0, .slice none 0 0] 31 (0, 0)) ∧ wz.heap.size ≤ s_.2.2.2 ∧ Below wz.heap.size wz w') ?_ ?_
  rotate_left
  · intro hCont
    refine two_ (i := 2) (j := 7) (Ni := some 14) (Nj := some 9) #[true, true, true, true, true, false, false, false, false] #[true, true, false, true, true, false, false, true, false] rfl rfl rfl rfl (by kernel_rfl) (by decide) (by decide) (fun K hK => ?_) (fun K hK => ?_)
    · skip
      refine Kd.R_lit_step (Kd.int .i64) (w0 := wz) wz.heap.size 3 (by rfl) (N := 14) rfl (xs := ([] : List Int)) (inner := []) (ok := fun _ => True) (okp := fun _ => True) ?hr (Reps.none _ _) (fun _ hk => hk) trivial HZ.out HZ.out.size (by simp) ?_
      case hr => first | (go_simp; done) | (go_simp; rfl)
      intro vl wl ho hb hg _
      have HL := Aside0.mk ho
      replace HZ := Aside0.mk hb
      clear ho hb hg
      obtain ⟨Al, cl, el⟩ := Kd.R_slice HL.out
      replace el : vl = .slice Al 0 cl := el
      subst el
      refine hK.out _ _ ⟨(blk_cell (blk_below BZ3.out HZ.out) 0).trans rfl, (blk_cell (blk_below BZ3.out HZ.out) 1).trans rfl⟩ (fun hHeld => ?_)
      clear hK K
      refine norm_ (a' := ?_) ?_ ?_
      rotate_left
      · show Act.put _ (some 14) _ = _
        simp only [Act.put, List.setIfInBounds_toArray, List.set_cons_zero, List.set_cons_succ, i64_w, i32_w]
        rfl
      refine two_ (i := 5) (j := 7) (Ni := some 17) (Nj := some 9) #[true, true, true, true, true, true, false, false, false] #[true, true, true, true, true, false, false, true, false] rfl rfl rfl rfl (by kernel_rfl) (by decide) (by decide) (fun K hK => ?_) (fun K hK => ?_)
      · skip
        refine Kd.R_append_rows_step (Kd.int .i64) (w0 := wz) wz.heap.size (by rfl) (.tmp 14) (.tmp 16) 23 3 (.int .i64 0) 8 rfl Try.underlying23 info3 rfl (by decide) (by omega) (.slice Al 0 cl) [] l1_1 _ _ _ (fun _ => True) (fun _ => False) rfl rfl HL.out (Kd.C_below SRC.out HZ.out) (fun _ _ h => h) (fun _ h => h.elim) (fun _ _ => trivial) HZ.out HZ.out.size (by simp; omega) ?_
        intro va wa ho hb hg hat
        replace HZ := Aside0.mk hb
        rw [List.nil_append] at ho
        replace HL := Aside0.mk ho
        clear ho hb hg hat
        obtain ⟨g2, cap, eq2, hb2, _⟩ := Kd.R_form HL.out hv1
        subst eq2
        clear hb2
        refine hK.out _ _ ⟨(blk_cell (blk_below BZ3.out HZ.out) 0).trans rfl, (blk_cell (blk_below BZ3.out HZ.out) 1).trans rfl⟩ (fun hHeld => ?_)
        clear hK K
        refine norm_ (a' := ?_) ?_ ?_
        rotate_left
        · show Act.put _ (some 17) _ = _
          simp only [Act.put, List.setIfInBounds_toArray, List.set_cons_zero, List.set_cons_succ, i64_w, i32_w]
          rfl
        refine pure_ (i := 6) (N := some 18) (v := ?_) (a' := ?_) #[true, true, true, true, true, true, true, false, false] rfl rfl (by kernel_rfl) (fun _ _ _ h => h) (Or.inl ⟨by rfl, ?_⟩) ?_ ?_
        rotate_left
        · intro w'
          go_simp
          with_reducible rfl
        rotate_left
        · simp only [Act.put, List.setIfInBounds_toArray, List.set_cons_zero, List.set_cons_succ, i64_w, i32_w]
          rfl
        refine one_ (i := 7) (N := some 9) #[true, true, true, true, true, true, true, true, false] rfl rfl (by kernel_rfl) (by decide) (fun K hK => ?_)
        refine box_step (by rfl) (N := 9) rfl (cs := #[.int .i64 0, .slice none 0 0]) (t := 31) ?hr ?_
        case hr => first | (go_simp; done) | (go_simp; rfl)
        intro g6 hg w6 hbox hb
        have L6 : wz.heap.size ≤ g6 := by rw [hg]; exact HZ.out.size
        replace HZ := Aside0.mk (below_step HZ.out hb)
        replace HL := Aside0.mk (Kd.R_below HL.out hb)
        have B6 := Aside0.mk hbox
        clear hg hb hbox
        refine hK.out _ _ ⟨(blk_cell (blk_below BZ3.out HZ.out) 0).trans rfl, (blk_cell (blk_below BZ3.out HZ.out) 1).trans rfl⟩ (fun hHeld => ?_)
        clear hK K
        refine norm_ (a' := ?_) ?_ ?_
        rotate_left
        · show Act.put _ (some 9) _ = _
          simp only [Act.put, List.setIfInBounds_toArray, List.set_cons_zero, List.set_cons_succ, i64_w, i32_w]
          rfl
        exact norm_ (by simp only [putAll, Act.put, List.setIfInBounds_toArray, List.set_cons_zero, List.set_cons_succ]) (hCont (.slice Al 0 cl, g2, cap, g6) _ ⟨hHeld, HL.out, B6.out, L6, HZ.out⟩)
      · skip
        refine box_step (by rfl) (N := 9) rfl (cs := #[.int .i64 0, .slice none 0 0]) (t := 31) ?hr ?_
        case hr => first | (go_simp; done) | (go_simp; rfl)
        intro g6 hg w6 hbox hb
        have L6 : wz.heap.size ≤ g6 := by rw [hg]; exact HZ.out.size
        replace HZ := Aside0.mk (below_step HZ.out hb)
        replace HL := Aside0.mk (Kd.R_below HL.out hb)
        have B6 := Aside0.mk hbox
        clear hg hb hbox
        refine hK.out _ _ ⟨(blk_cell (blk_below BZ3.out HZ.out) 0).trans rfl, (blk_cell (blk_below BZ3.out HZ.out) 1).trans rfl⟩ (fun hHeld => ?_)
        clear hK K
        refine norm_ (a' := ?_) ?_ ?_
        rotate_left
        · show Act.put _ (some 9) _ = _
          simp only [Act.put, List.setIfInBounds_toArray, List.set_cons_zero, List.set_cons_succ, i64_w, i32_w]
          rfl
        refine one_ (i := 5) (N := some 17) #[true, true, true, true, true, true, false, true, false] rfl rfl (by kernel_rfl) (by decide) (fun K hK => ?_)
        refine Kd.R_append_rows_step (Kd.int .i64) (w0 := wz) wz.heap.size (by rfl) (.tmp 14) (.tmp 16) 23 3 (.int .i64 0) 8 rfl Try.underlying23 info3 rfl (by decide) (by omega) (.slice Al 0 cl) [] l1_1 _ _ _ (fun _ => True) (fun _ => False) rfl rfl HL.out (Kd.C_below SRC.out HZ.out) (fun _ _ h => h) (fun _ h => h.elim) (fun _ _ => trivial) HZ.out HZ.out.size (by simp; omega) ?_
        intro va wa ho hb hg hat
        replace HZ := Aside0.mk hb
        replace B6 := Aside0.mk (blk_grown B6.out hg (Kd.R_ne HL.out B6.out (by decide)))
        rw [List.nil_append] at ho
        replace HL := Aside0.mk ho
        clear ho hb hg hat
        obtain ⟨g2, cap, eq2, hb2, _⟩ := Kd.R_form HL.out hv1
        subst eq2
        clear hb2
        refine hK.out _ _ ⟨(blk_cell (blk_below BZ3.out HZ.out) 0).trans rfl, (blk_cell (blk_below BZ3.out HZ.out) 1).trans rfl⟩ (fun hHeld => ?_)
        clear hK K
        refine norm_ (a' := ?_) ?_ ?_
        rotate_left
        · show Act.put _ (some 17) _ = _
          simp only [Act.put, List.setIfInBounds_toArray, List.set_cons_zero, List.set_cons_succ, i64_w, i32_w]
          rfl
        refine pure_ (i := 6) (N := some 18) (v := ?_) (a' := ?_) #[true, true, true, true, true, true, true, true, false] rfl rfl (by kernel_rfl) (fun _ _ _ h => h) (Or.inl ⟨by rfl, ?_⟩) ?_ ?_
        rotate_left
        · intro w'
          go_simp
          with_reducible rfl
        rotate_left
        · simp only [Act.put, List.setIfInBounds_toArray, List.set_cons_zero, List.set_cons_succ, i64_w, i32_w]
          rfl
        exact norm_ (by simp only [putAll, Act.put, List.setIfInBounds_toArray, List.set_cons_zero, List.set_cons_succ]) (hCont (.slice Al 0 cl, g2, cap, g6) _ ⟨hHeld, HL.out, B6.out, L6, HZ.out⟩)
    · skip
      refine box_step (by rfl) (N := 9) rfl (cs := #[.int .i64 0, .slice none 0 0]) (t := 31) ?hr ?_
      case hr => first | (go_simp; done) | (go_simp; rfl)
      intro g6 hg w6 hbox hb
      have L6 : wz.heap.size ≤ g6 := by rw [hg]; exact HZ.out.size
      replace HZ := Aside0.mk (below_step HZ.out hb)
      have B6 := Aside0.mk hbox
      clear hg hb hbox
      refine hK.out _ _ ⟨(blk_cell (blk_below BZ3.out HZ.out) 0).trans rfl, (blk_cell (blk_below BZ3.out HZ.out) 1).trans rfl⟩ (fun hHeld => ?_)
      clear hK K
      refine norm_ (a' := ?_) ?_ ?_
      rotate_left
      · show Act.put _ (some 9) _ = _
        simp only [Act.put, List.setIfInBounds_toArray, List.set_cons_zero, List.set_cons_succ, i64_w, i32_w]
        rfl
      refine one_ (i := 2) (N := some 14) #[true, true, true, true, true, false, false, true, false] rfl rfl (by kernel_rfl) (by decide) (fun K hK => ?_)
      refine Kd.R_lit_step (Kd.int .i64) (w0 := wz) wz.heap.size 3 (by rfl) (N := 14) rfl (xs := ([] : List Int)) (inner := []) (ok := fun _ => True) (okp := fun _ => True) ?hr (Reps.none _ _) (fun _ hk => hk) trivial HZ.out HZ.out.size (by simp) ?_
      case hr => first | (go_simp; done) | (go_simp; rfl)
      intro vl wl ho hb hg _
      have hB : Below _ _ wl := ⟨hg.os, hg.tape, hg.output, hg.size, fun k hk => hg.block k hk (by simp)⟩
      replace B6 := Aside0.mk (blk_below B6.out hB)
      clear hB
      have HL := Aside0.mk ho
      replace HZ := Aside0.mk hb
      clear ho hb hg
      obtain ⟨Al, cl, el⟩ := Kd.R_slice HL.out
      replace el : vl = .slice Al 0 cl := el
      subst el
      refine hK.out _ _ ⟨(blk_cell (blk_below BZ3.out HZ.out) 0).trans rfl, (blk_cell (blk_below BZ3.out HZ.out) 1).trans rfl⟩ (fun hHeld => ?_)
      clear hK K
      refine norm_ (a' := ?_) ?_ ?_
      rotate_left
      · show Act.put _ (some 14) _ = _
        simp only [Act.put, List.setIfInBounds_toArray, List.set_cons_zero, List.set_cons_succ, i64_w, i32_w]
        rfl
      refine one_ (i := 5) (N := some 17) #[true, true, true, true, true, true, false, true, false] rfl rfl (by kernel_rfl) (by decide) (fun K hK => ?_)
      refine Kd.R_append_rows_step (Kd.int .i64) (w0 := wz) wz.heap.size (by rfl) (.tmp 14) (.tmp 16) 23 3 (.int .i64 0) 8 rfl Try.underlying23 info3 rfl (by decide) (by omega) (.slice Al 0 cl) [] l1_1 _ _ _ (fun _ => True) (fun _ => False) rfl rfl HL.out (Kd.C_below SRC.out HZ.out) (fun _ _ h => h) (fun _ h => h.elim) (fun _ _ => trivial) HZ.out HZ.out.size (by simp; omega) ?_
      intro va wa ho hb hg hat
      replace HZ := Aside0.mk hb
      replace B6 := Aside0.mk (blk_grown B6.out hg (Kd.R_ne HL.out B6.out (by decide)))
      rw [List.nil_append] at ho
      replace HL := Aside0.mk ho
      clear ho hb hg hat
      obtain ⟨g2, cap, eq2, hb2, _⟩ := Kd.R_form HL.out hv1
      subst eq2
      clear hb2
      refine hK.out _ _ ⟨(blk_cell (blk_below BZ3.out HZ.out) 0).trans rfl, (blk_cell (blk_below BZ3.out HZ.out) 1).trans rfl⟩ (fun hHeld => ?_)
      clear hK K
      refine norm_ (a' := ?_) ?_ ?_
      rotate_left
      · show Act.put _ (some 17) _ = _
        simp only [Act.put, List.setIfInBounds_toArray, List.set_cons_zero, List.set_cons_succ, i64_w, i32_w]
        rfl
      refine pure_ (i := 6) (N := some 18) (v := ?_) (a' := ?_) #[true, true, true, true, true, true, true, true, false] rfl rfl (by kernel_rfl) (fun _ _ _ h => h) (Or.inl ⟨by rfl, ?_⟩) ?_ ?_
      rotate_left
      · intro w'
        go_simp
        with_reducible rfl
      rotate_left
      · simp only [Act.put, List.setIfInBounds_toArray, List.set_cons_zero, List.set_cons_succ, i64_w, i32_w]
        rfl
      exact norm_ (by simp only [putAll, Act.put, List.setIfInBounds_toArray, List.set_cons_zero, List.set_cons_succ]) (hCont (.slice Al 0 cl, g2, cap, g6) _ ⟨hHeld, HL.out, B6.out, L6, HZ.out⟩)
  rintro ⟨vl, g2, cap, g6⟩ wj ⟨hHeld, ho, hx, L6, hz⟩
  have HL := Aside0.mk ho
  have B6 := Aside0.mk hx
  replace HZ := Aside0.mk hz
  clear ho hx hz
  have N36 : g3 ≠ g6 := Nat.ne_of_lt (Nat.lt_of_lt_of_le (blk_lt BZ3.out) L6)
  refine norm_ (a' := ?_) ?_ ?_
  rotate_left
  · simp only [putAll, Act.put, List.setIfInBounds_toArray, List.set_cons_zero, List.set_cons_succ]
    rfl
  refine one_ (i := 8) (N := none) #[true, true, true, true, true, true, true, true, true] rfl rfl (by kernel_rfl) (by decide) (fun K hK => ?_)
  have s60 := (blk_cell B6.out 0).trans rfl
  have s61 := (blk_cell B6.out 1).trans rfl
  have f60 := blk_frozen B6.out 0
  have f61 := blk_frozen B6.out 1
  refine skip_ (w1 := ?_) (by rfl) rfl ?_ ?_
  rotate_left
  · go_simp
    rfl
  refine hK.out _ _ ⟨(cell_far (p := ⟨g6, _, none⟩) N36 _).trans ((cell_far (p := ⟨g6, _, none⟩) N36 _).trans hHeld.1), (cell_far (p := ⟨g6, _, none⟩) N36 _).trans ((cell_far (p := ⟨g6, _, none⟩) N36 _).trans hHeld.2)⟩ (fun hHeld => ?_)
  clear hK K
  refine done_ (by kernel_rfl) ?_
  have q6 := blk_put (cs := #[.int .i64 a1_0, .slice none 0 0]) (blk_put (cs := #[.int .i64 0, .slice none 0 0]) B6.out 0 (.int .i64 a1_0) rfl) 1 (.slice (some ⟨g2, 0, none⟩) l1_1.length cap) rfl
  have qL := Kd.R_set (Kd.R_set HL.out B6.out (by decide) 0 (.int .i64 a1_0)) (blk_put (cs := #[.int .i64 0, .slice none 0 0]) B6.out 0 (.int .i64 a1_0) rfl) (by decide) 1 (.slice (some ⟨g2, 0, none⟩) l1_1.length cap)
  have qz : Below wz.heap.size wz ((wj.setCell ⟨g6, 0, none⟩ (.int .i64 a1_0)).setCell ⟨g6, 1, none⟩ (.slice (some ⟨g2, 0, none⟩) l1_1.length cap)) := below_set (below_set HZ.out L6) L6
  clear hHeld HL B6 HZ s60 s61 f60 f61 N36 BZ3 SRC
  generalize (wj.setCell ⟨g6, 0, none⟩ (.int .i64 a1_0)).setCell ⟨g6, 1, none⟩ (.slice (some ⟨g2, 0, none⟩) l1_1.length cap) = wn at q6 qL qz ⊢
  have NW := Aside0.mk (Now.mk (w0 := w) q6 (Kd.R_lower qL (Nat.le_trans HB.out.size HZB.out.size)) (below_step (below_step HB.out HZB.out) qz))
  have HG6 : Aside0 (w.heap.size ≤ g6) := ⟨Nat.le_trans (Nat.le_trans HB.out.size HZB.out.size) L6⟩
  have L2 := Kd.R_base qL g2 rfl
  replace OUT := Aside0.mk (Kd.S_below (Kd.S_mono (ok' := fun k => k ≠ g6 ∧ k ≠ g2) (Kd.S_bound (Kd.S_below OUT.out HZB.out)) (fun k hk => ⟨Nat.ne_of_lt (Nat.lt_of_lt_of_le hk.2.2.1 L6), Nat.ne_of_lt (Nat.lt_of_lt_of_le hk.2.2.1 L2)⟩)) qz)
  clear q6 qL qz HB HZB B3 L3 L6 L2
  go_wp2
  go_loopw [8, 10] (fun v8 v10 wr => ∃ (i : Nat) (ln : Int) (us : List Int) (S0 : List S31), v10 = .int .i64 i ∧ i ≤ N ∧ S0.length = i ∧ Aside0 (S0 ++ (statesI l0 (N - i) ln us).1 = r1 ∧ (statesI l0 (N - i) ln us).2 = r2) ∧ Aside0 (StOk l0 ln us) ∧ Aside0 (Now w wr g6 g2 cap ln us) ∧ Aside0 (Kd.S k31 31 wr w.heap.size (fun k => k ≠ g6 ∧ k ≠ g2) v8 S0)) (fun _ i _ => N - (intOf i).toNat)
  case atStart => exact ⟨0, a1_0, l1_1, [], rfl, Nat.zero_le _, rfl, ⟨by rw [List.nil_append, Nat.sub_zero, H.out]; exact ⟨rfl, rfl⟩⟩, SO0, NW, OUT⟩
  case round =>
    clear NW H SO0 OUT hv1 hv4
    obtain ⟨i, ln, us, S0, rfl, hi, hSl, HH, SO, NW, OUT⟩ := hrel
    have hv1 : 0 < us.length := by have := SO.out.1.2.1; omega
    have hv4 : us.length ≤ 4 := by have := SO.out.1.2.2.1; omega
    have hi20 : i ≤ 2000 := by omega
    go_wp2
    refine start_ (n := 11) (S := fun w' => w'.cell? ⟨g6, 0, none⟩ = some (.int .i64 ln) ∧ w'.cell? ⟨g6, 1, none⟩ = some (.slice (some ⟨g2, 0, none⟩) us.length cap)) (ds := []) #[false, false, false, false, false, false, false, false, false, false, false] (by kernel_rfl) rfl rfl ⟨(blk_cell NW.out.box 0).trans rfl, (blk_cell NW.out.box 1).trans rfl⟩ (fun hHeld => ?_)
    refine Own.anew_ (wN := wr) (by repeat (first | with_reducible exact Below.refl _ _ | with_reducible apply below_alloc | with_reducible apply pw_below_drewN | with_reducible apply below_drew1)) hHeld (fun wz hzb hHeld => ?_)
    have NZ := Aside0.mk (NW.out.below hzb)
    have SRC := Aside0.mk (Kd.R_reads' NZ.out.row).2.2
    replace OUT := Aside0.mk (Kd.S_below OUT.out hzb)
    have HZ := Aside0.mk (Below.refl wz.heap.size wz)
    clear hzb NW
    refine pure_ (i := 0) (N := some 21) (v := ?_) (a' := ?_) #[true, false, false, false, false, false, false, false, false, false, false] rfl rfl (by kernel_rfl) (fun _ _ _ h => h) (Or.inl ⟨by rfl, ?_⟩) ?_ ?_
    rotate_left
    · intro w'
      go_simp
      with_reducible rfl
    rotate_left
    · simp only [Act.put, List.setIfInBounds_toArray, List.set_cons_zero, List.set_cons_succ, i64_w, i32_w]
      rfl
    refine pure_ (i := 1) (N := some 22) (v := ?_) (a' := ?_) #[true, true, false, false, false, false, false, false, false, false, false] rfl rfl (by kernel_rfl) (fun _ _ _ h => h) (Or.inl ⟨by rfl, ?_⟩) ?_ ?_
    rotate_left
    · intro w'
      go_simp
      with_reducible rfl
    rotate_left
    · simp only [Act.put, List.setIfInBounds_toArray, List.set_cons_zero, List.set_cons_succ, i64_w, i32_w]
      rfl
    refine pure_ (i := 4) (N := some 25) (v := ?_) (a' := ?_) #[true, true, false, false, true, false, false, false, false, false, false] rfl rfl (by kernel_rfl) (fun _ _ _ h => h) (Or.inl ⟨by rfl, ?_⟩) ?_ ?_
    rotate_left
    · intro w'
      go_simp
      with_reducible rfl
    rotate_left
    · simp only [Act.put, List.setIfInBounds_toArray, List.set_cons_zero, List.set_cons_succ, i64_w, i32_w]
      rfl
    refine take_ (i := 2) (N := some 23) (v := ?_) (a' := ?_) #[true, true, true, false, true, false, false, false, false, false, false] rfl rfl (by kernel_rfl) (fun _ _ _ h => h) (Or.inl ⟨by rfl, ?_⟩) hHeld ?_ ?_
    rotate_left
    · rintro w' ⟨s0, s1⟩
      go_simp
      with_reducible rfl
    rotate_left
    · simp only [Act.put, List.setIfInBounds_toArray, List.set_cons_zero, List.set_cons_succ, i64_w, i32_w]
      rfl
    refine take_ (i := 5) (N := some 26) (v := ?_) (a' := ?_) #[true, true, true, false, true, true, false, false, false, false, false] rfl rfl (by kernel_rfl) (fun _ _ _ h => h) (Or.inl ⟨by rfl, ?_⟩) hHeld ?_ ?_
    rotate_left
    · rintro w' ⟨s0, s1⟩
      go_simp
      with_reducible rfl
    rotate_left
    · simp only [Act.put, List.setIfInBounds_toArray, List.set_cons_zero, List.set_cons_succ, i64_w, i32_w]
      rfl
    refine one_ (i := 3) (N := some 24) #[true, true, true, true, true, true, false, false, false, false, false] rfl rfl (by kernel_rfl) (by decide) (fun K hK => ?_)
    refine Kd.R_lit_step (Kd.int .i64) (w0 := wz) wz.heap.size 3 (by rfl) (N := 24) rfl (xs := ([] : List Int)) (inner := []) (ok := fun _ => True) (okp := fun _ => True) ?hr (Reps.none _ _) (fun _ hk => hk) trivial HZ.out HZ.out.size (by simp) ?_
    case hr => first | (go_simp; done) | (go_simp; rfl)
    intro vl wl ho hb hg _
    have HL := Aside0.mk ho
    replace HZ := Aside0.mk hb
    clear ho hb hg
    obtain ⟨Al, cl, el⟩ := Kd.R_slice HL.out
    replace el : vl = .slice Al 0 cl := el
    subst el
    refine hK.out _ _ ⟨(blk_cell (NZ.out.below HZ.out).box 0).trans rfl, (blk_cell (NZ.out.below HZ.out).box 1).trans rfl⟩ (fun hHeld => ?_)
    clear hK K
    refine norm_ (a' := ?_) ?_ ?_
    rotate_left
    · show Act.put _ (some 24) _ = _
      simp only [Act.put, List.setIfInBounds_toArray, List.set_cons_zero, List.set_cons_succ, i64_w, i32_w]
      rfl
    refine one_ (i := 6) (N := some 27) #[true, true, true, true, true, true, true, false, false, false, false] rfl rfl (by kernel_rfl) (by decide) (fun K hK => ?_)
    refine Kd.R_append_rows_step (Kd.int .i64) (w0 := wz) wz.heap.size (by rfl) (.tmp 24) (.tmp 26) 23 3 (.int .i64 0) 8 rfl Try.underlying23 info3 rfl (by decide) (by omega) (.slice Al 0 cl) [] us _ _ _ (fun _ => True) (fun _ => False) rfl rfl HL.out (Kd.C_below SRC.out HZ.out) (fun _ _ h => h) (fun _ h => h.elim) (fun _ _ => trivial) HZ.out HZ.out.size (by simp; omega) ?_
    intro va wa ho hb hg hat
    replace HZ := Aside0.mk hb
    rw [List.nil_append] at ho
    replace HL := Aside0.mk ho
    clear ho hb hg hat
    obtain ⟨gA, capA, eq2, gAb, _⟩ := Kd.R_form HL.out hv1
    subst eq2
    refine hK.out _ _ ⟨(blk_cell (NZ.out.below HZ.out).box 0).trans rfl, (blk_cell (NZ.out.below HZ.out).box 1).trans rfl⟩ (fun hHeld => ?_)
    clear hK K
    refine norm_ (a' := ?_) ?_ ?_
    rotate_left
    · show Act.put _ (some 27) _ = _
      simp only [Act.put, List.setIfInBounds_toArray, List.set_cons_zero, List.set_cons_succ, i64_w, i32_w]
      rfl
    refine pure_ (i := 7) (N := some 28) (v := ?_) (a' := ?_) #[true, true, true, true, true, true, true, true, false, false, false] rfl rfl (by kernel_rfl) (fun _ _ _ h => h) (Or.inl ⟨by rfl, ?_⟩) ?_ ?_
    rotate_left
    · intro w'
      go_simp
      with_reducible rfl
    rotate_left
    · simp only [Act.put, List.setIfInBounds_toArray, List.set_cons_zero, List.set_cons_succ, i64_w, i32_w]
      rfl
    refine one_ (i := 8) (N := some 29) #[true, true, true, true, true, true, true, true, true, false, false] rfl rfl (by kernel_rfl) (by decide) (fun K hK => ?_)
    refine value_ (v := .slice (some ⟨wa.heap.size, 0, none⟩) 1 1) (w1 := wa.alloc (.cells #[.int .i64 ln, .slice (some ⟨gA, 0, none⟩) us.length capA] 31)) (by rfl) rfl ?_ ?_
    · first | (go_simp; done) | (go_simp; rfl)
    refine hK.out _ _ ⟨(blk_cell (blk_alloc (NZ.out.below HZ.out).box _) 0).trans rfl, (blk_cell (blk_alloc (NZ.out.below HZ.out).box _) 1).trans rfl⟩ (fun hHeld => ?_)
    clear hK K
    refine norm_ (a' := ?_) ?_ ?_
    rotate_left
    · show Act.put _ (some 29) _ = _
      simp only [Act.put, List.setIfInBounds_toArray, List.set_cons_zero, List.set_cons_succ, i64_w, i32_w]
      rfl
    refine one_ (i := 9) (N := some 30) #[true, true, true, true, true, true, true, true, true, true, false] rfl rfl (by kernel_rfl) (by decide) (fun K hK => ?_)
    have nA6 : gA ≠ g6 := fun e_ => Nat.lt_irrefl g6 (Nat.lt_of_lt_of_le (blk_lt NZ.out.box) (e_ ▸ gAb))
    have nA2 : gA ≠ g2 := fun e_ => Nat.lt_irrefl g2 (Nat.lt_of_lt_of_le (Kd.R_lt NZ.out.row g2 rfl) (e_ ▸ gAb))
    have lt6 := blk_lt (NZ.out.below HZ.out).box
    have lt2 := Kd.R_lt (NZ.out.below HZ.out).row g2 rfl
    have nv6 : some g6 ≠ u8.ownBlock := fun e_ => (OUT.out.choose_spec.1 g6 e_.symm).1 rfl
    have nv2 : some g2 ≠ u8.ownBlock := fun e_ => (OUT.out.choose_spec.1 g2 e_.symm).2 rfl
    refine Kd.S_append_step k31 (w0 := w) w.heap.size (by rfl) (.tmp 21) (.tmp 29) 68 31 (.agg #[.int .i64 0, .slice none 0 0]) 32 rfl Try.underlying68 infoCt rfl (by decide) (by omega) u8 S0 ⟨ln, us⟩ [.int .i64 ln, .slice (some ⟨gA, 0, none⟩) us.length capA] (fun k => k ≠ g6 ∧ k ≠ g2) (fun k => some k = (Value.slice (some ⟨gA, 0, none⟩) us.length capA).ownBlock) rfl rfl ?_ ?_ ?_ ?_ ?_ ?_ ?_ ?_
    · exact k31_mkM _ _ _ _ (Kd.R_lower (Kd.R_tight rfl HL.out) NZ.out.be.size)
    · intro k hk
      obtain rfl : k = gA := Option.some.inj hk
      exact ⟨⟨nA6, nA2⟩, fun e_ => Nat.lt_irrefl _ (Nat.lt_of_lt_of_le (Kd.S_lt OUT.out k e_.symm) gAb)⟩
    · exact fun k hk => ⟨fun e_ => by omega, fun e_ => by omega⟩
    · refine Kd.S_below (Kd.S_mono (Kd.S_bound OUT.out) (fun k hk => ⟨hk.1, fun e_ => ?_⟩)) HZ.out
      obtain rfl : k = gA := Option.some.inj e_
      exact Nat.lt_irrefl _ (Nat.lt_of_lt_of_le hk.2.2.1 gAb)
    · exact below_step NZ.out.be HZ.out
    · exact Nat.le_trans NZ.out.be.size HZ.out.size
    · rw [hSl]; omega
    intro v9 w9 ho hb hg hat
    have NW := Aside0.mk ((NZ.out.below HZ.out).grown hb hg nv6 nv2)
    replace OUT := Aside0.mk ho
    clear ho hb hg hat HL HZ SRC NZ nv6 nv2 nA6 nA2 lt6 lt2
    refine hK.out _ _ ⟨(blk_cell NW.out.box 0).trans rfl, (blk_cell NW.out.box 1).trans rfl⟩ (fun hHeld => ?_)
    clear hK K
    refine norm_ (a' := ?_) ?_ ?_
    rotate_left
    · show Act.put _ (some 30) _ = _
      simp only [Act.put, List.setIfInBounds_toArray, List.set_cons_zero, List.set_cons_succ, i64_w, i32_w]
      rfl
    refine pure_ (i := 10) (N := some 8) (v := ?_) (a' := ?_) #[true, true, true, true, true, true, true, true, true, true, true] rfl rfl (by kernel_rfl) (fun _ _ _ h => h) (Or.inl ⟨by rfl, ?_⟩) ?_ ?_
    rotate_left
    · intro w'
      go_simp
      with_reducible rfl
    rotate_left
    · simp only [Act.put, List.setIfInBounds_toArray, List.set_cons_zero, List.set_cons_succ, i64_w, i32_w]
      rfl
    refine done_ (by kernel_rfl) ?_
    clear hHeld
    by_cases hlt : i < N
    · obtain ⟨m, hm⟩ : ∃ m, N - i = m + 1 := ⟨N - i - 1, by omega⟩
      have hh := HH.out
      rw [hm, statesI] at hh
      have d1 : ((i : Int) == (N : Int)) = false := by simp; omega
      obtain ⟨b, hb0⟩ : ∃ b, b = (stepL l0 ln us).2.2 := ⟨_, rfl⟩
      rw [← hb0] at hh
      have HST := Aside0.mk hb0
      replace HH := Aside0.mk hh
      clear hb0 hh
      go_wp2_with fail
      refine (advance_own (fun _ => True) g6 ad0 c0 l0 ln g2 cap us w _ H1.out HC1.out NW.out.be NW.out.box HG6.out NW.out.row SO.out).mono ?_
      rintro e wv ⟨rfl, hA⟩
      rw [← HST.out]
      have NW2 := Aside0.mk (Now.of_adv hA)
      replace OUT := Aside0.mk (Kd.S_step OUT.out (fun k ho hlt_ => hA.keep k hlt_ ho.1 ho.2))
      clear hA
      cases b with
      | true =>
        have hh := HH.out
        rw [if_pos rfl] at hh
        have HH2 : Aside0 ((S0 ++ [⟨ln, us⟩]) ++ (statesI l0 (N - (i + 1)) (stepL l0 ln us).1 (stepL l0 ln us).2.1).1 = r1 ∧ (statesI l0 (N - (i + 1)) (stepL l0 ln us).1 (stepL l0 ln us).2.1).2 = r2) := ⟨by rw [show N - (i + 1) = m by omega, List.append_assoc]; exact hh⟩
        clear hh HH
        go_wp2
        go_roundw
        case rel => exact ⟨i + 1, _, _, _, by go_num, by omega, by simp [hSl], HH2, ⟨stepL_ok SO.out⟩, NW2, OUT⟩
        case measure => simp [intOf]; omega
      | false =>
        have hh := HH.out
        rw [if_neg (by simp)] at hh
        obtain ⟨rfl, rfl⟩ := hh
        go_wp2
        go_ret2
        exact ⟨_, rfl, Kd.S_mono OUT.out (fun _ _ => trivial), NW2.out.be⟩
    · obtain rfl : i = N := by omega
      have hh := HH.out
      rw [Nat.sub_self, statesI] at hh
      obtain ⟨rfl, rfl⟩ := hh
      go_wp2
      go_ret2
      exact ⟨_, rfl, Kd.S_mono OUT.out (fun _ _ => trivial), NW.out.be⟩
end Go.Proofs.Ytbcphkblieeemaa.P
