/- The walk of spec.ctMake (printed by gen_run.py). -/
import Derived.Test.YtbcphkblieeemaaZFnExactIsEndless0
import Derived.Test.YtbcphkblieeemaaYFnExactIsEndlessVRun
import Derived.Test.YtbcphkblieeemaaYFnExactIsEndlessVStep
namespace Go.Proofs.Ytbcphkblieeemaa.P
open Go.RowKit Go.Proofs.YtbcphkblieeemaaW.PrintWords Go.Proofs.YtbcphkblieeemaaW.PrintLast Go.Proofs.YtbcphkblieeemaaW.PrintMore Go.Proofs.Ytbcphkblieeemaa.Own Go.Proofs.Ytbcphkblieeemaa.A
set_option linter.unusedVariables false
set_option linter.unusedSimpArgs false
/-! ### spec_ctMake: function 48 -/
def spec_ctMake.f (k : Nat) (l : List S55) (line : Int) (vs : List Int) (n : Int) : Option (List S31 × List Int × Bool) := if l.length ≤ 1048576 ∧ vs.length ≤ 1048576 ∧ StOk l line vs ∧ 0 ≤ n ∧ n ≤ 2000 then some (makeL l n.toNat 0 line vs (-1)) else none
theorem spec_ctMake.mono : ∀ a0 a1 a2 a3 k, LeO (spec_ctMake.f k a0 a1 a2 a3) (spec_ctMake.f (k + 1) a0 a1 a2 a3) := fun _ _ _ _ _ => LeO.refl _
set_option maxHeartbeats 4000000 in
set_option maxRecDepth 100000 in
theorem spec_ctMake.calls (k : Nat) (A0 : Option Addr) (c0 : Nat) (l0 : List S55) (a1_0 : Int) (A1_1 : Option Addr) (c1_1 : Nat) (l1_1 : List Int) (a2 : Int) (r1 : List S31) (r2 : List Int) (r3 : Bool) (w : World) (hr0 : Kd.C k55 w A0 l0.length l0) (hc0 : l0.length ≤ c0) (hr1_1 : Kd.C (Kd.int .i64) w A1_1 l1_1.length l1_1) (hc1_1 : l1_1.length ≤ c1_1) (h : spec_ctMake.f k l0 a1_0 l1_1 a2 = some (r1, r2, r3)) :
    Calls Try.prog 48 #[.slice A0 l0.length c0, .agg #[.int .i64 a1_0, .slice A1_1 l1_1.length c1_1], .int .i64 a2] w fun e w' => ∃ g : Nat, e = .returned (.pointer (some ⟨g, 0, none⟩)) ∧ ∃ gs cs gz cz : Nat, Run w w' g gs cs gz cz r1 r2 r3 := by
  unfold spec_ctMake.f at h
  by_cases hsm : l0.length ≤ 1048576 ∧ l1_1.length ≤ 1048576 ∧ StOk l0 a1_0 l1_1 ∧ 0 ≤ a2 ∧ a2 ≤ 2000
  case neg => rw [if_neg hsm] at h; simp at h
  rw [if_pos hsm] at h
  replace h := Option.some.inj h
  obtain ⟨_, _, hok, hn0, hn1⟩ := hsm
  have H1 := Aside0.mk hr0
  have H2 := Aside0.mk hr1_1
  have HC1 := Aside0.mk hc0
  have HC2 := Aside0.mk hc1_1
  have hu := Try.underlying31
  have hu70 := Try.underlying70
  clear hr0 hr1_1 hc0 hc1_1
  obtain ⟨N, rfl⟩ := Int.eq_ofNat_of_zero_le hn0
  rw [Int.toNat_natCast] at h
  have H := Aside0.mk h
  have SO0 := Aside0.mk hok
  clear h
  have hv1 : 0 < l1_1.length := by have := hok.1.2.1; omega
  have hv4 : l1_1.length ≤ 4 := by have := hok.1.2.2.1; omega
  obtain ⟨ad0, ea0, -⟩ := at_T55 H1.out (0 : Int) (by omega) (by have := hok.1.2.2.2.1; omega)
  subst ea0
  have OWN := Aside0.mk (l1Own l1_1 (by omega))
  clear hok
  go_enter Try.func48, Try.ntmps48
  go_wp2_with (first
    | ((with_reducible refine gate_dst (N := 4) rfl ?_); refine box_event ?hg (N := 4) ?hd (cs := #[.int .i64 a1_0, .slice A1_1 l1_1.length c1_1]) (t := 31) ?hr ?_; (case hd => rfl); (case hg => rfl); (case hr => first | (go_simp; done) | (go_simp; rfl)); intro g3 hg w3 hbox hb; have B3 := Aside0.mk hbox; have HB := Aside0.mk hb; have L3 : Aside0 (w.heap.size ≤ g3) := ⟨(by rw [hg]; exact Nat.le_refl _)⟩; clear hg hbox hb)
    | fail)
  refine start_ (n := 11) (S := fun w' => w'.cell? ⟨g3, 0, none⟩ = some (.int .i64 a1_0) ∧ w'.cell? ⟨g3, 1, none⟩ = some (.slice A1_1 l1_1.length c1_1)) (ds := []) #[false, false, false, false, false, false, false, false, false, false, false] (by kernel_rfl) rfl rfl ⟨(blk_cell B3.out 0).trans rfl, (blk_cell B3.out 1).trans rfl⟩ (fun hHeld => ?_)
  refine Own.anew_ (wN := w3) (by repeat (first | with_reducible exact Below.refl _ _ | with_reducible apply below_alloc | with_reducible apply pw_below_drewN | with_reducible apply below_drew1)) hHeld (fun wz hzb hHeld => ?_)
  have HZB := Aside0.mk hzb
  have BZ3 := Aside0.mk (blk_below B3.out hzb)
  have SRC := Aside0.mk (Kd.C_below (Kd.C_below H2.out HB.out) hzb)
  have HZ := Aside0.mk (Below.refl wz.heap.size wz)
  clear hzb
  refine pure_ (i := 0) (N := some 13) (v := ?_) (a' := ?_) #[true, false, false, false, false, false, false, false, false, false, false] rfl rfl (by kernel_rfl) (fun _ _ _ h => h) (Or.inl ⟨by rfl, ?_⟩) ?_ ?_
  rotate_left
  · intro w'
    go_simp
    with_reducible rfl
  rotate_left
  · simp only [Act.put, List.setIfInBounds_toArray, List.set_cons_zero, List.set_cons_succ, i64_w, i32_w]
    rfl
  refine pure_ (i := 2) (N := some 15) (v := ?_) (a' := ?_) #[true, false, true, false, false, false, false, false, false, false, false] rfl rfl (by kernel_rfl) (fun _ _ _ h => h) (Or.inl ⟨by rfl, ?_⟩) ?_ ?_
  rotate_left
  · intro w'
    go_simp
    with_reducible rfl
  rotate_left
  · simp only [Act.put, List.setIfInBounds_toArray, List.set_cons_zero, List.set_cons_succ, i64_w, i32_w]
    rfl
  refine take_ (i := 1) (N := some 14) (v := ?_) (a' := ?_) #[true, true, true, false, false, false, false, false, false, false, false] rfl rfl (by kernel_rfl) (fun _ _ _ h => h) (Or.inl ⟨by rfl, ?_⟩) hHeld ?_ ?_
  rotate_left
  · rintro w' ⟨s0, s1⟩
    go_simp
    with_reducible rfl
  rotate_left
  · simp only [Act.put, List.setIfInBounds_toArray, List.set_cons_zero, List.set_cons_succ, i64_w, i32_w]
    rfl
  refine take_ (i := 3) (N := some 16) (v := ?_) (a' := ?_) #[true, true, true, true, false, false, false, false, false, false, false] rfl rfl (by kernel_rfl) (fun _ _ _ h => h) (Or.inl ⟨by rfl, ?_⟩) hHeld ?_ ?_
  rotate_left
  · rintro w' ⟨s0, s1⟩
    go_simp
    with_reducible rfl
  rotate_left
  · simp only [Act.put, List.setIfInBounds_toArray, List.set_cons_zero, List.set_cons_succ, i64_w, i32_w]
    rfl
  refine join_ (σ := Nat × Nat × Nat × Nat × Nat × Nat) 3 #[true, true, true, true, true, true, true, true, false, false, false] (fun s_ => [(17, .slice (some ⟨s_.1, 0, none⟩) l1_1.length s_.2.1), (18, .agg #[.int .i64 a1_0, .slice (some ⟨s_.1, 0, none⟩) l1_1.length s_.2.1]), (19, .slice (some ⟨s_.2.2.1, 0, none⟩) 1 s_.2.2.2.1), (20, .slice (some ⟨s_.2.2.2.2.1, 0, none⟩) 1 s_.2.2.2.2.2)]) (fun s_ w' => (w'.cell? ⟨g3, 0, none⟩ = some (.int .i64 a1_0) ∧ w'.cell? ⟨g3, 1, none⟩ = some (.slice A1_1 l1_1.length c1_1)) ∧ Kd.R k31 31 w' wz.heap.size (fun k => k ≠ s_.2.2.2.2.1) (.slice (some ⟨s_.2.2.1, 0, none⟩) 1 s_.2.2.2.1) [⟨a1_0, l1_1⟩] ∧ Kd.R (Kd.int .i64) 3 w' wz.heap.size (fun _ => True) (.slice (some ⟨s_.2.2.2.2.1, 0, none⟩) 1 s_.2.2.2.2.2) [-1] ∧ Below wz.heap.size wz w') ?_ ?_
  rotate_left
  · intro hCont
    refine two_ (i := 4) (j := 7) (Ni := some 17) (Nj := some 20) #[true, true, true, true, true, false, false, false, false, false, false] #[true, true, true, true, false, false, false, true, false, false, false] rfl rfl rfl rfl (by kernel_rfl) (by decide) (by decide) (fun K hK => ?_) (fun K hK => ?_)
    · skip
      refine goes_ Try.func51 (by kernel_rfl) rfl #[.slice A1_1 l1_1.length c1_1] (by rfl) rfl rfl (by (try simp only [List.map_toArray, List.map_cons, List.map_nil]); first | done | rfl) ?_
      with_reducible refine (spec_l1Own.calls _ _ l1_1 l1_1 _ (Kd.C_below SRC.out HZ.out) HC2.out OWN.out).mono ?_
      rintro e wo ⟨vo, rfl, ho, hb⟩
      refine ⟨_, rfl, ?_⟩
      have so_ := HZ.out.size
      replace HZ := Aside0.mk (below_step HZ.out hb)
      obtain ⟨gO, cO, eO, gOb, gOl, _⟩ := Kd.R_form ho hv1
      subst eO
      have HO := Aside0.mk (Kd.R_tight rfl (Kd.R_lower ho so_))
      clear ho hb
      refine hK.out _ _ ⟨(blk_cell (blk_below BZ3.out HZ.out) 0).trans rfl, (blk_cell (blk_below BZ3.out HZ.out) 1).trans rfl⟩ (fun hHeld => ?_)
      clear hK K
      refine norm_ (a' := ?_) ?_ ?_
      rotate_left
      · show Act.put _ (some 17) _ = _
        simp only [Act.put, List.setIfInBounds_toArray, List.set_cons_zero, List.set_cons_succ, i64_w, i32_w]
        rfl
      refine pure_ (i := 5) (N := some 18) (v := ?_) (a' := ?_) #[true, true, true, true, true, true, false, false, false, false, false] rfl rfl (by kernel_rfl) (fun _ _ _ h => h) (Or.inl ⟨by rfl, ?_⟩) ?_ ?_
      rotate_left
      · intro w'
        go_simp
        with_reducible rfl
      rotate_left
      · simp only [Act.put, List.setIfInBounds_toArray, List.set_cons_zero, List.set_cons_succ, i64_w, i32_w]
        rfl
      refine two_ (i := 6) (j := 7) (Ni := some 19) (Nj := some 20) #[true, true, true, true, true, true, true, false, false, false, false] #[true, true, true, true, true, true, false, true, false, false, false] rfl rfl rfl rfl (by kernel_rfl) (by decide) (by decide) (fun K hK => ?_) (fun K hK => ?_)
      · skip
        obtain ⟨nS, enS⟩ : ∃ n, n = wo.heap.size := ⟨_, rfl⟩
        have hnS : nS ≤ wo.heap.size := Nat.le_of_eq enS
        refine Kd.R_lit_step k31 (w0 := wz) wz.heap.size 31 (by rfl) (N := 19) rfl (xs := [(⟨a1_0, l1_1⟩ : S31)]) (inner := [.int .i64 a1_0, .slice (some ⟨gO, 0, none⟩) l1_1.length cO]) (ok := fun k => k = gO ∨ nS ≤ k) (okp := fun k => some k = (Value.slice (some ⟨gO, 0, none⟩) l1_1.length cO).ownBlock) ?hr (Reps.c2 (k31_mkM _ _ _ ⟨a1_0, l1_1⟩ HO.out) (Reps.none _ _)) (fun k hk => .inl (Option.some.inj hk)) (.inr hnS) HZ.out HZ.out.size (by simp) ?_
        case hr => first | (go_simp; done) | (go_simp; rfl)
        intro vl wl ho hb hg _
        have hB : Below _ _ wl := ⟨hg.os, hg.tape, hg.output, hg.size, fun k hk => hg.block k hk (by simp)⟩
        obtain ⟨gS, cS, eS, gSb, gSl, _⟩ := Kd.R_form ho (by simp)
        replace eS : vl = .slice (some ⟨gS, 0, none⟩) 1 cS := eS
        subst eS
        have HS := Aside0.mk ho
        replace HZ := Aside0.mk hb
        clear ho hb hg hB
        refine hK.out _ _ ⟨(blk_cell (blk_below BZ3.out HZ.out) 0).trans rfl, (blk_cell (blk_below BZ3.out HZ.out) 1).trans rfl⟩ (fun hHeld => ?_)
        clear hK K
        refine norm_ (a' := ?_) ?_ ?_
        rotate_left
        · show Act.put _ (some 19) _ = _
          simp only [Act.put, List.setIfInBounds_toArray, List.set_cons_zero, List.set_cons_succ, i64_w, i32_w]
          rfl
        refine one_ (i := 7) (N := some 20) #[true, true, true, true, true, true, true, true, false, false, false] rfl rfl (by kernel_rfl) (by decide) (fun K hK => ?_)
        replace HS := Aside0.mk (Kd.R_bound HS.out)
        refine Kd.R_lit_step (Kd.int .i64) (w0 := wz) wz.heap.size 3 (by rfl) (N := 20) rfl (xs := [(-1 : Int)]) (inner := [.int .i64 (-1)]) (ok := fun _ => True) (okp := fun _ => True) ?hr (Reps.one rfl (Reps.none _ _)) (fun _ hk => hk) trivial HZ.out HZ.out.size (by simp) ?_
        case hr => first | (go_simp; done) | (go_simp; rfl)
        intro vl wl ho hb hg hat
        have hB : Below _ _ wl := ⟨hg.os, hg.tape, hg.output, hg.size, fun k hk => hg.block k hk (by simp)⟩
        replace HS := Aside0.mk (Kd.R_below HS.out hB)
        obtain ⟨gZ, cZ, eZ, gZb, gZl, _⟩ := Kd.R_form ho (by simp)
        obtain ⟨b_, eb_, hb_⟩ := hat
        replace eZ : vl = .slice (some ⟨gZ, 0, none⟩) 1 cZ := eZ
        subst eZ
        obtain rfl : gZ = b_ := Option.some.inj eb_
        have HZR := Aside0.mk ho
        replace HZ := Aside0.mk hb
        clear ho hb hg hB eb_
        refine hK.out _ _ ⟨(blk_cell (blk_below BZ3.out HZ.out) 0).trans rfl, (blk_cell (blk_below BZ3.out HZ.out) 1).trans rfl⟩ (fun hHeld => ?_)
        clear hK K
        refine norm_ (a' := ?_) ?_ ?_
        rotate_left
        · show Act.put _ (some 20) _ = _
          simp only [Act.put, List.setIfInBounds_toArray, List.set_cons_zero, List.set_cons_succ, i64_w, i32_w]
          rfl
        exact norm_ (by simp only [putAll, Act.put, List.setIfInBounds_toArray, List.set_cons_zero, List.set_cons_succ]) (hCont (gO, cO, gS, cS, gZ, cZ) _ ⟨hHeld, Kd.R_mono HS.out (fun k hk => Nat.ne_of_lt (Nat.lt_of_lt_of_le hk.2.2.1 hb_)), HZR.out, HZ.out⟩)
      · skip
        refine Kd.R_lit_step (Kd.int .i64) (w0 := wz) wz.heap.size 3 (by rfl) (N := 20) rfl (xs := [(-1 : Int)]) (inner := [.int .i64 (-1)]) (ok := fun _ => True) (okp := fun _ => True) ?hr (Reps.one rfl (Reps.none _ _)) (fun _ hk => hk) trivial HZ.out HZ.out.size (by simp) ?_
        case hr => first | (go_simp; done) | (go_simp; rfl)
        intro vl wl ho hb hg hat
        have hB : Below _ _ wl := ⟨hg.os, hg.tape, hg.output, hg.size, fun k hk => hg.block k hk (by simp)⟩
        replace HO := Aside0.mk (Kd.R_below HO.out hB)
        obtain ⟨gZ, cZ, eZ, gZb, gZl, _⟩ := Kd.R_form ho (by simp)
        obtain ⟨b_, eb_, hb_⟩ := hat
        replace eZ : vl = .slice (some ⟨gZ, 0, none⟩) 1 cZ := eZ
        subst eZ
        obtain rfl : gZ = b_ := Option.some.inj eb_
        have HZR := Aside0.mk ho
        replace HZ := Aside0.mk hb
        clear ho hb hg hB eb_
        refine hK.out _ _ ⟨(blk_cell (blk_below BZ3.out HZ.out) 0).trans rfl, (blk_cell (blk_below BZ3.out HZ.out) 1).trans rfl⟩ (fun hHeld => ?_)
        clear hK K
        refine norm_ (a' := ?_) ?_ ?_
        rotate_left
        · show Act.put _ (some 20) _ = _
          simp only [Act.put, List.setIfInBounds_toArray, List.set_cons_zero, List.set_cons_succ, i64_w, i32_w]
          rfl
        refine one_ (i := 6) (N := some 19) #[true, true, true, true, true, true, true, true, false, false, false] rfl rfl (by kernel_rfl) (by decide) (fun K hK => ?_)
        obtain ⟨nS, enS⟩ : ∃ n, n = wl.heap.size := ⟨_, rfl⟩
        have hnS : nS ≤ wl.heap.size := Nat.le_of_eq enS
        refine Kd.R_lit_step k31 (w0 := wz) wz.heap.size 31 (by rfl) (N := 19) rfl (xs := [(⟨a1_0, l1_1⟩ : S31)]) (inner := [.int .i64 a1_0, .slice (some ⟨gO, 0, none⟩) l1_1.length cO]) (ok := fun k => k = gO ∨ nS ≤ k) (okp := fun k => some k = (Value.slice (some ⟨gO, 0, none⟩) l1_1.length cO).ownBlock) ?hr (Reps.c2 (k31_mkM _ _ _ ⟨a1_0, l1_1⟩ HO.out) (Reps.none _ _)) (fun k hk => .inl (Option.some.inj hk)) (.inr hnS) HZ.out HZ.out.size (by simp) ?_
        case hr => first | (go_simp; done) | (go_simp; rfl)
        intro vl wl ho hb hg _
        have hB : Below _ _ wl := ⟨hg.os, hg.tape, hg.output, hg.size, fun k hk => hg.block k hk (by simp)⟩
        replace HZR := Aside0.mk (Kd.R_below HZR.out hB)
        obtain ⟨gS, cS, eS, gSb, gSl, _⟩ := Kd.R_form ho (by simp)
        replace eS : vl = .slice (some ⟨gS, 0, none⟩) 1 cS := eS
        subst eS
        have HS := Aside0.mk ho
        replace HZ := Aside0.mk hb
        clear ho hb hg hB
        refine hK.out _ _ ⟨(blk_cell (blk_below BZ3.out HZ.out) 0).trans rfl, (blk_cell (blk_below BZ3.out HZ.out) 1).trans rfl⟩ (fun hHeld => ?_)
        clear hK K
        refine norm_ (a' := ?_) ?_ ?_
        rotate_left
        · show Act.put _ (some 19) _ = _
          simp only [Act.put, List.setIfInBounds_toArray, List.set_cons_zero, List.set_cons_succ, i64_w, i32_w]
          rfl
        exact norm_ (by simp only [putAll, Act.put, List.setIfInBounds_toArray, List.set_cons_zero, List.set_cons_succ]) (hCont (gO, cO, gS, cS, gZ, cZ) _ ⟨hHeld, Kd.R_mono HS.out (fun k hk => show k ≠ gZ from hk.elim (fun e_ => by omega) (fun e_ => by omega)), HZR.out, HZ.out⟩)
    · skip
      refine Kd.R_lit_step (Kd.int .i64) (w0 := wz) wz.heap.size 3 (by rfl) (N := 20) rfl (xs := [(-1 : Int)]) (inner := [.int .i64 (-1)]) (ok := fun _ => True) (okp := fun _ => True) ?hr (Reps.one rfl (Reps.none _ _)) (fun _ hk => hk) trivial HZ.out HZ.out.size (by simp) ?_
      case hr => first | (go_simp; done) | (go_simp; rfl)
      intro vl wl ho hb hg hat
      have hB : Below _ _ wl := ⟨hg.os, hg.tape, hg.output, hg.size, fun k hk => hg.block k hk (by simp)⟩
      obtain ⟨gZ, cZ, eZ, gZb, gZl, _⟩ := Kd.R_form ho (by simp)
      obtain ⟨b_, eb_, hb_⟩ := hat
      replace eZ : vl = .slice (some ⟨gZ, 0, none⟩) 1 cZ := eZ
      subst eZ
      obtain rfl : gZ = b_ := Option.some.inj eb_
      have HZR := Aside0.mk ho
      replace HZ := Aside0.mk hb
      clear ho hb hg hB eb_
      refine hK.out _ _ ⟨(blk_cell (blk_below BZ3.out HZ.out) 0).trans rfl, (blk_cell (blk_below BZ3.out HZ.out) 1).trans rfl⟩ (fun hHeld => ?_)
      clear hK K
      refine norm_ (a' := ?_) ?_ ?_
      rotate_left
      · show Act.put _ (some 20) _ = _
        simp only [Act.put, List.setIfInBounds_toArray, List.set_cons_zero, List.set_cons_succ, i64_w, i32_w]
        rfl
      refine one_ (i := 4) (N := some 17) #[true, true, true, true, true, false, false, true, false, false, false] rfl rfl (by kernel_rfl) (by decide) (fun K hK => ?_)
      refine goes_ Try.func51 (by kernel_rfl) rfl #[.slice A1_1 l1_1.length c1_1] (by rfl) rfl rfl (by (try simp only [List.map_toArray, List.map_cons, List.map_nil]); first | done | rfl) ?_
      with_reducible refine (spec_l1Own.calls _ _ l1_1 l1_1 _ (Kd.C_below SRC.out HZ.out) HC2.out OWN.out).mono ?_
      rintro e wo ⟨vo, rfl, ho, hb⟩
      refine ⟨_, rfl, ?_⟩
      have HZR := Aside0.mk (Kd.R_below HZR.out hb)
      have zo := hb.size
      have so_ := HZ.out.size
      replace HZ := Aside0.mk (below_step HZ.out hb)
      obtain ⟨gO, cO, eO, gOb, gOl, _⟩ := Kd.R_form ho hv1
      subst eO
      have HO := Aside0.mk (Kd.R_tight rfl (Kd.R_lower ho so_))
      clear ho hb
      refine hK.out _ _ ⟨(blk_cell (blk_below BZ3.out HZ.out) 0).trans rfl, (blk_cell (blk_below BZ3.out HZ.out) 1).trans rfl⟩ (fun hHeld => ?_)
      clear hK K
      refine norm_ (a' := ?_) ?_ ?_
      rotate_left
      · show Act.put _ (some 17) _ = _
        simp only [Act.put, List.setIfInBounds_toArray, List.set_cons_zero, List.set_cons_succ, i64_w, i32_w]
        rfl
      refine pure_ (i := 5) (N := some 18) (v := ?_) (a' := ?_) #[true, true, true, true, true, true, false, true, false, false, false] rfl rfl (by kernel_rfl) (fun _ _ _ h => h) (Or.inl ⟨by rfl, ?_⟩) ?_ ?_
      rotate_left
      · intro w'
        go_simp
        with_reducible rfl
      rotate_left
      · simp only [Act.put, List.setIfInBounds_toArray, List.set_cons_zero, List.set_cons_succ, i64_w, i32_w]
        rfl
      refine one_ (i := 6) (N := some 19) #[true, true, true, true, true, true, true, true, false, false, false] rfl rfl (by kernel_rfl) (by decide) (fun K hK => ?_)
      obtain ⟨nS, enS⟩ : ∃ n, n = wo.heap.size := ⟨_, rfl⟩
      have hnS : nS ≤ wo.heap.size := Nat.le_of_eq enS
      refine Kd.R_lit_step k31 (w0 := wz) wz.heap.size 31 (by rfl) (N := 19) rfl (xs := [(⟨a1_0, l1_1⟩ : S31)]) (inner := [.int .i64 a1_0, .slice (some ⟨gO, 0, none⟩) l1_1.length cO]) (ok := fun k => k = gO ∨ nS ≤ k) (okp := fun k => some k = (Value.slice (some ⟨gO, 0, none⟩) l1_1.length cO).ownBlock) ?hr (Reps.c2 (k31_mkM _ _ _ ⟨a1_0, l1_1⟩ HO.out) (Reps.none _ _)) (fun k hk => .inl (Option.some.inj hk)) (.inr hnS) HZ.out HZ.out.size (by simp) ?_
      case hr => first | (go_simp; done) | (go_simp; rfl)
      intro vl wl ho hb hg _
      have hB : Below _ _ wl := ⟨hg.os, hg.tape, hg.output, hg.size, fun k hk => hg.block k hk (by simp)⟩
      replace HZR := Aside0.mk (Kd.R_below HZR.out hB)
      obtain ⟨gS, cS, eS, gSb, gSl, _⟩ := Kd.R_form ho (by simp)
      replace eS : vl = .slice (some ⟨gS, 0, none⟩) 1 cS := eS
      subst eS
      have HS := Aside0.mk ho
      replace HZ := Aside0.mk hb
      clear ho hb hg hB
      refine hK.out _ _ ⟨(blk_cell (blk_below BZ3.out HZ.out) 0).trans rfl, (blk_cell (blk_below BZ3.out HZ.out) 1).trans rfl⟩ (fun hHeld => ?_)
      clear hK K
      refine norm_ (a' := ?_) ?_ ?_
      rotate_left
      · show Act.put _ (some 19) _ = _
        simp only [Act.put, List.setIfInBounds_toArray, List.set_cons_zero, List.set_cons_succ, i64_w, i32_w]
        rfl
      exact norm_ (by simp only [putAll, Act.put, List.setIfInBounds_toArray, List.set_cons_zero, List.set_cons_succ]) (hCont (gO, cO, gS, cS, gZ, cZ) _ ⟨hHeld, Kd.R_mono HS.out (fun k hk => show k ≠ gZ from hk.elim (fun e_ => by omega) (fun e_ => by omega)), HZR.out, HZ.out⟩)
  rintro ⟨gO, cO, gs, cs, gz, cz⟩ wj ⟨hHeld, ho, hz, hb⟩
  have HS := Aside0.mk ho
  have HZR := Aside0.mk hz
  replace HZ := Aside0.mk hb
  clear ho hz hb
  refine norm_ (a' := ?_) ?_ ?_
  rotate_left
  · simp only [putAll, Act.put, List.setIfInBounds_toArray, List.set_cons_zero, List.set_cons_succ]
    rfl
  refine pure_ (i := 8) (N := some 21) (v := ?_) (a' := ?_) #[true, true, true, true, true, true, true, true, true, false, false] rfl rfl (by kernel_rfl) (fun _ _ _ h => h) (Or.inl ⟨by rfl, ?_⟩) ?_ ?_
  rotate_left
  · intro w'
    go_simp
    with_reducible rfl
  rotate_left
  · simp only [Act.put, List.setIfInBounds_toArray, List.set_cons_zero, List.set_cons_succ, i64_w, i32_w]
    rfl
  refine one_ (i := 9) (N := some 22) #[true, true, true, true, true, true, true, true, true, true, false] rfl rfl (by kernel_rfl) (by decide) (fun K hK => ?_)
  refine box_step (by rfl) (N := 22) rfl (cs := #[.slice (some ⟨gs, 0, none⟩) 1 cs, .slice (some ⟨gz, 0, none⟩) 1 cz, .bool false]) (t := 70) ?hr ?_
  case hr => first | (go_simp; done) | (go_simp; rfl)
  intro g hg wb hbox hb
  have lg : wz.heap.size ≤ g := by rw [hg]; exact HZ.out.size
  replace HZ := Aside0.mk (below_step HZ.out hb)
  have lz := Nat.le_trans HB.out.size HZB.out.size
  have RN : Aside0 (Run w wb g gs cs gz cz [⟨a1_0, l1_1⟩] [-1] false) := ⟨⟨hbox, Kd.R_mono (Kd.R_lower (Kd.R_below HS.out hb) lz) (fun k hk => ⟨trivial, fun e_ => hk (Option.some.inj e_)⟩), Kd.R_lower (Kd.R_below HZR.out hb) lz, below_step (below_step HB.out HZB.out) HZ.out, Nat.le_trans lz lg⟩⟩
  clear hg hbox hb lg lz HS HZR
  refine hK.out _ _ ⟨(blk_cell (blk_below BZ3.out HZ.out) 0).trans rfl, (blk_cell (blk_below BZ3.out HZ.out) 1).trans rfl⟩ (fun hHeld => ?_)
  clear hK K
  refine norm_ (a' := ?_) ?_ ?_
  rotate_left
  · show Act.put _ (some 22) _ = _
    simp only [Act.put, List.setIfInBounds_toArray, List.set_cons_zero, List.set_cons_succ, i64_w, i32_w]
    rfl
  refine pure_ (i := 10) (N := some 7) (v := ?_) (a' := ?_) #[true, true, true, true, true, true, true, true, true, true, true] rfl rfl (by kernel_rfl) (fun _ _ _ h => h) (Or.inl ⟨by rfl, ?_⟩) ?_ ?_
  rotate_left
  · intro w'
    go_simp
    with_reducible rfl
  rotate_left
  · simp only [Act.put, List.setIfInBounds_toArray, List.set_cons_zero, List.set_cons_succ, i64_w, i32_w]
    rfl
  refine done_ (by kernel_rfl) ?_
  clear hHeld HZ HZB BZ3 SRC B3 L3 HB OWN
  go_wp2
  go_loopw [8] (fun v8 wr => ∃ (k : Nat) (pre : List S31) (pz : List Int) (gs cs gz cz : Nat) (ln : Int) (us : List Int) (z : Int), v8 = .int .i64 k ∧ k ≤ N ∧ pre.length = k ∧ pz.length = k ∧ Aside0 (pre ++ (makeL l0 (N - k) k ln us z).1 = r1 ∧ pz ++ (makeL l0 (N - k) k ln us z).2.1 = r2 ∧ (makeL l0 (N - k) k ln us z).2.2 = r3) ∧ Aside0 (StOk l0 ln us) ∧ Aside0 (Run w wr g gs cs gz cz (pre ++ [⟨ln, us⟩]) (pz ++ [z]) false)) (fun k _ => N - (intOf k).toNat)
  case atStart => exact ⟨0, [], [], gs, cs, gz, cz, a1_0, l1_1, -1, rfl, Nat.zero_le _, rfl, rfl, ⟨by rw [Nat.sub_zero]; simp only [List.nil_append]; exact ⟨by rw [Int.natCast_zero, H.out], by rw [Int.natCast_zero, H.out], by rw [Int.natCast_zero, H.out]⟩⟩, SO0, RN⟩
  case round =>
    clear RN H SO0 hv1 hv4
    obtain ⟨k, pre, pz, gs, cs, gz, cz, ln, us, z, rfl, hk, hpl, hzl, HH, SO, RN⟩ := hrel
    have hv1 : 0 < us.length := by have := SO.out.1.2.1; omega
    have hv4 : us.length ≤ 4 := by have := SO.out.1.2.2.1; omega
    obtain ⟨S1, hS1⟩ : ∃ S1, S1 = pre ++ [(⟨ln, us⟩ : S31)] := ⟨_, rfl⟩
    obtain ⟨Z1, hZ1⟩ : ∃ Z1, Z1 = pz ++ [z] := ⟨_, rfl⟩
    rw [← hS1, ← hZ1] at RN
    have HSL : Aside0 (S1.length = k + 1) := ⟨by rw [hS1]; simp [hpl]⟩
    have HZL : Aside0 (Z1.length = k + 1) := ⟨by rw [hZ1]; simp [hzl]⟩
    have hks : k < S1.length := by have := HSL.out; omega
    have hkz : k < Z1.length := by have := HZL.out; omega
    have e1 : rd_T31 S1 (k : Int) = ⟨ln, us⟩ := by rw [hS1]; simp [rd_T31, hpl]
    have e2 : rd Z1 (k : Int) = z := by rw [hZ1]; simp [rd, hzl]
    obtain ⟨ad, A1, c1, ea, x0, x1, xl, xC⟩ := at_T31 (Kd.R_reads' RN.out.st).2.2 (k : Int) (by omega) (by omega)
    rw [e1] at x0 x1 xl xC
    rw [Int.toNat_natCast] at x0 x1
    obtain ⟨adz, ez, y0⟩ := Kd.at_int (Kd.R_reads' RN.out.ze).2.2 (k : Int) (by omega) (by omega)
    rw [e2, Int.toNat_natCast] at y0
    replace ea : (⟨gs, 0, none⟩ : Addr) = ad := Option.some.inj ea
    replace ez : (⟨gz, 0, none⟩ : Addr) = adz := Option.some.inj ez
    have s0 : wr.cell? ⟨g, 0, none⟩ = some (.slice (some ad) S1.length cs) := by rw [← ea]; exact (blk_cell RN.out.box 0).trans rfl
    have EA := Aside0.mk ea
    have EZ := Aside0.mk ez
    have XC := Aside0.mk xC
    have XL := Aside0.mk xl
    have Y0 := Aside0.mk y0
    have HS1 := Aside0.mk hS1
    have HZ1 := Aside0.mk hZ1
    clear e1 e2 ea ez xC xl y0 hS1 hZ1
    by_cases hlt : k < N
    · obtain ⟨m, hm⟩ : ∃ m, N - k = m + 1 := ⟨N - k - 1, by omega⟩
      have hh := HH.out
      rw [hm, makeL] at hh
      clear HH
      by_cases hH : hLt l0 ln
      · simp only [if_pos hH] at hh
        obtain ⟨hh1, hh2, hh3⟩ := hh
        have HHt : Aside0 (spec_ctHalted.f l0 ln us = some true) := ⟨by rw [specHalted SO.out]; exact congrArg some (decide_eq_true hH)⟩
        clear hH
        rw [← HS1.out] at hh1
        rw [← HZ1.out] at hh2
        subst hh1 hh2 hh3
        go_wp2_with fail
        refine (spec_ctHalted.calls _ _ l0 ln _ _ us true _ (Kd.C_below H1.out RN.out.be) HC1.out XC.out XL.out HHt.out).mono ?_
        rintro e w1 ⟨rfl, hb⟩
        go_wp2
        go_ret
        exact ⟨g, rfl, gs, cs, gz, cz, RN.out.below hb⟩
      · simp only [if_neg hH] at hh
        have HHt : Aside0 (spec_ctHalted.f l0 ln us = some false) := ⟨by rw [specHalted SO.out]; exact congrArg some (decide_eq_false hH)⟩
        have hK5 : stepZ l0 ln us = (if (stepL l0 ln us).2.2 = true then ((stepL l0 ln us).1, (stepL l0 ln us).2.1, zeroL l0 ln us, true) else (0, [], false, false)) := rfl
        have HNH := Aside0.mk hH
        have hln := stepL_len l0 ln us
        have SO2 := Aside0.mk (stepL_ok SO.out)
        obtain ⟨⟨l2, us2, b⟩, hst⟩ : ∃ t, t = stepL l0 ln us := ⟨_, rfl⟩
        rw [← hst] at hh hK5 hln SO2
        simp only at hh hK5 hln
        obtain ⟨zb, hzb⟩ : ∃ t, t = zeroL l0 ln us := ⟨_, rfl⟩
        rw [← hzb] at hh hK5
        clear hH hst hzb
        go_wp2_with fail
        refine (spec_ctHalted.calls _ _ l0 ln _ _ us false _ (Kd.C_below H1.out RN.out.be) HC1.out XC.out XL.out HHt.out).mono ?_
        rintro e w1 ⟨rfl, hb⟩
        replace x0 := pw_cell_below hb x0
        replace x1 := pw_cell_below hb x1
        replace s0 := pw_cell_below hb s0
        replace Y0 := Aside0.mk (pw_cell_below hb Y0.out)
        replace XC := Aside0.mk (Kd.C_below XC.out hb)
        replace RN := Aside0.mk (RN.out.below hb)
        have HX := Aside0.mk hh
        have RS1 := Aside0.mk (And.intro (Kd.R_lt RN.out.st gs rfl) (Kd.R_lt RN.out.ze gz rfl))
        have WS1 := Aside0.mk RN.out.be.size
        clear hb hh
        cases b with
        | false =>
          rw [if_neg (by simp)] at hK5
          have HK5 := Aside0.mk hK5
          obtain ⟨hh1, hh2, hh3⟩ := HX.out
          simp only [Bool.false_eq_true, if_false] at hh1 hh2 hh3
          rw [← HS1.out] at hh1
          rw [← HZ1.out] at hh2
          subst hh1 hh2 hh3
          clear hK5 HX
          go_wp2_with (first
            | (go_at_call 45; (with_reducible refine (ctStep_own _ _ l0 ln _ _ us 0 [] false false _ ?c1 HC1.out ?c2 XL.out SO.out HNH.out HK5.out).mono ?_); (case c1 => exact Kd.C_below H1.out RN.out.be); (case c2 => exact XC.out); rintro e wS ⟨vN, rfl, ho, hb⟩; have s1b := Aside0.mk hb.size; replace s0 := pw_cell_below hb s0; replace Y0 := Aside0.mk (pw_cell_below hb Y0.out); replace RN := Aside0.mk (RN.out.below hb); have HN := Aside0.mk ho; obtain ⟨Av, cv, ev⟩ := Kd.R_slice HN.out; replace ev : vN = .slice Av 0 cv := ev; subst ev; clear hb ho x0 x1)
            | ((with_reducible refine gate_dst (N := 9) rfl ?_); refine box_event ?hg (N := 9) ?hd (cs := #[.int .i64 0, .slice none 0 0]) (t := 31) ?hr ?_; (case hd => rfl); (case hg => rfl); (case hr => first | (go_simp; done) | (go_simp; rfl)); intro g9 hg w9 hbox hb; have l9 : wS.heap.size ≤ g9 := (by rw [hg]; exact Nat.le_refl _); replace s0 := pw_cell_below hb s0; have HB9 := Aside0.mk hb; have B9 := Aside0.mk hbox; clear hg hbox hb; have y90 := (blk_cell B9.out 0).trans rfl; have y91 := (blk_cell B9.out 1).trans rfl; have f90 := blk_frozen B9.out 0; have f91 := blk_frozen B9.out 1)
            | ((with_reducible refine gate_store (t := 31) (p := 9) rfl ?_); refine store_event (t := 31) (p := 9) (v := ?vo) (w1 := (w9.setCell ⟨g9, 0, none⟩ (.int .i64 0)).setCell ⟨g9, 1, none⟩ (.slice Av 0 cv)) ?hg ?ho ?hn ?hr ?_; (case ho => rfl); (case hg => rfl); (case hn => rfl); (case hr => first | (go_simp; done) | (go_simp; rfl)); intro wT hw; have hbT : Below wS.heap.size wS wT := (by rw [hw]; exact below_set (below_set HB9.out l9) l9); have b9 : wT.heap[g9]? = some (.cells #[.int .i64 0, .slice Av 0 cv] 31 (0, 0)) := (by rw [hw]; exact blk_put (cs := #[.int .i64 0, .slice none 0 0]) (blk_put (cs := #[.int .i64 0, .slice none 0 0]) B9.out 0 _ rfl) 1 _ rfl); have BT := Aside0.mk b9; replace RN := Aside0.mk (RN.out.below hbT); replace HN := Aside0.mk (Kd.R_below HN.out hbT); replace Y0 := Aside0.mk (pw_cell_below hbT Y0.out); have ST := Aside0.mk hbT.size; clear hbT b9 hw s0 B9 HB9 y90 y91 f90 f91; have y0 := Y0.out; have s1 : wT.cell? ⟨g, 1, none⟩ = some (.slice (some adz) Z1.length cz) := (by rw [← EZ.out]; exact (blk_cell RN.out.box 1).trans rfl); have s2 : wT.cell? ⟨g, 2, none⟩ = some (.bool false) := (blk_cell RN.out.box 2).trans rfl; have fs2 := blk_frozen RN.out.box 2)
            | fail)
          go_ret
          exact ⟨g, rfl, gs, cs, gz, cz, RN.out.fail true⟩
        | true =>
          rw [if_pos rfl] at hK5
          have HK5 := Aside0.mk hK5
          simp only [if_true] at HX
          clear hK5
          cases zb with
          | false =>
            go_wp2_with (first
              | (go_at_call 45; (with_reducible refine (ctStep_own _ _ l0 ln _ _ us l2 us2 false true _ ?c1 HC1.out ?c2 XL.out SO.out HNH.out HK5.out).mono ?_); (case c1 => exact Kd.C_below H1.out RN.out.be); (case c2 => exact XC.out); rintro e wS ⟨vN, rfl, ho, hb⟩; have s1b := Aside0.mk hb.size; replace s0 := pw_cell_below hb s0; replace Y0 := Aside0.mk (pw_cell_below hb Y0.out); replace RN := Aside0.mk (RN.out.below hb); have HN := Aside0.mk ho; obtain ⟨gN, cN, eN, gNb, gNl, _⟩ := Kd.R_form HN.out (by rw [hln]; exact hv1); subst eN; clear hb ho x0 x1)
              | ((with_reducible refine gate_dst (N := 9) rfl ?_); refine box_event ?hg (N := 9) ?hd (cs := #[.int .i64 0, .slice none 0 0]) (t := 31) ?hr ?_; (case hd => rfl); (case hg => rfl); (case hr => first | (go_simp; done) | (go_simp; rfl)); intro g9 hg w9 hbox hb; have l9 : wS.heap.size ≤ g9 := (by rw [hg]; exact Nat.le_refl _); replace s0 := pw_cell_below hb s0; have HB9 := Aside0.mk hb; have B9 := Aside0.mk hbox; clear hg hbox hb; have y90 := (blk_cell B9.out 0).trans rfl; have y91 := (blk_cell B9.out 1).trans rfl; have f90 := blk_frozen B9.out 0; have f91 := blk_frozen B9.out 1)
              | ((with_reducible refine gate_store (t := 31) (p := 9) rfl ?_); refine store_event (t := 31) (p := 9) (v := ?vo) (w1 := (w9.setCell ⟨g9, 0, none⟩ (.int .i64 l2)).setCell ⟨g9, 1, none⟩ (.slice (some ⟨gN, 0, none⟩) us2.length cN)) ?hg ?ho ?hn ?hr ?_; (case ho => rfl); (case hg => rfl); (case hn => rfl); (case hr => first | (go_simp; done) | (go_simp; rfl)); intro wT hw; have hbT : Below wS.heap.size wS wT := (by rw [hw]; exact below_set (below_set HB9.out l9) l9); have b9 : wT.heap[g9]? = some (.cells #[.int .i64 l2, .slice (some ⟨gN, 0, none⟩) us2.length cN] 31 (0, 0)) := (by rw [hw]; exact blk_put (cs := #[.int .i64 l2, .slice none 0 0]) (blk_put (cs := #[.int .i64 0, .slice none 0 0]) B9.out 0 _ rfl) 1 _ rfl); have BT := Aside0.mk b9; replace RN := Aside0.mk (RN.out.below hbT); replace HN := Aside0.mk (Kd.R_below HN.out hbT); replace Y0 := Aside0.mk (pw_cell_below hbT Y0.out); have ST := Aside0.mk hbT.size; clear hbT b9 hw s0 B9 HB9 y90 y91 f90 f91; have y0 := Y0.out; have s1 : wT.cell? ⟨g, 1, none⟩ = some (.slice (some adz) Z1.length cz) := (by rw [← EZ.out]; exact (blk_cell RN.out.box 1).trans rfl); have s2 : wT.cell? ⟨g, 2, none⟩ = some (.bool false) := (blk_cell RN.out.box 2).trans rfl; have fs2 := blk_frozen RN.out.box 2)
              | fail)
            clear s1 s2 fs2 y0
            refine start_ (n := 11) (S := fun w' => w'.cell? ⟨g, 0, none⟩ = some (.slice (some ⟨gs, 0, none⟩) S1.length cs) ∧ w'.cell? ⟨g9, 0, none⟩ = some (.int .i64 l2) ∧ w'.cell? ⟨g9, 1, none⟩ = some (.slice (some ⟨gN, 0, none⟩) us2.length cN)) (ds := [10]) #[false, false, false, false, false, false, false, false, false, false, false] (by kernel_rfl) rfl rfl ⟨(blk_cell RN.out.box 0).trans rfl, (blk_cell BT.out 0).trans rfl, (blk_cell BT.out 1).trans rfl⟩ (fun hHeld => ?_)
            refine Own.anew_ (wN := wT) (by repeat (first | with_reducible exact Below.refl _ _ | with_reducible apply below_alloc | with_reducible apply pw_below_drewN | with_reducible apply below_drew1)) hHeld (fun wz hzb hHeld => ?_)
            replace RN := Aside0.mk (RN.out.below hzb)
            replace BT := Aside0.mk (blk_below BT.out hzb)
            replace HN := Aside0.mk (Kd.R_below HN.out hzb)
            have SZ := Aside0.mk hzb.size
            clear hzb
            refine pure_ (i := 0) (N := some 68) (v := ?_) (a' := ?_) #[true, false, false, false, false, false, false, false, false, false, false] rfl rfl (by kernel_rfl) (fun _ _ _ h => h) (Or.inl ⟨by rfl, ?_⟩) ?_ ?_
            rotate_left
            · intro w'
              go_simp
              with_reducible rfl
            rotate_left
            · simp only [Act.put, List.setIfInBounds_toArray, List.set_cons_zero, List.set_cons_succ, i64_w, i32_w]
              rfl
            refine pure_ (i := 1) (N := some 69) (v := ?_) (a' := ?_) #[true, true, false, false, false, false, false, false, false, false, false] rfl rfl (by kernel_rfl) (fun _ _ _ h => h) (Or.inl ⟨by rfl, ?_⟩) ?_ ?_
            rotate_left
            · intro w'
              go_simp
              with_reducible rfl
            rotate_left
            · simp only [Act.put, List.setIfInBounds_toArray, List.set_cons_zero, List.set_cons_succ, i64_w, i32_w]
              rfl
            refine pure_ (i := 2) (N := some 70) (v := ?_) (a' := ?_) #[true, true, true, false, false, false, false, false, false, false, false] rfl rfl (by kernel_rfl) (fun _ _ _ h => h) (Or.inl ⟨by rfl, ?_⟩) ?_ ?_
            rotate_left
            · intro w'
              go_simp
              with_reducible rfl
            rotate_left
            · simp only [Act.put, List.setIfInBounds_toArray, List.set_cons_zero, List.set_cons_succ, i64_w, i32_w]
              rfl
            refine pure_ (i := 3) (N := some 71) (v := ?_) (a' := ?_) #[true, true, true, true, false, false, false, false, false, false, false] rfl rfl (by kernel_rfl) (fun _ _ _ h => h) (Or.inl ⟨by rfl, ?_⟩) ?_ ?_
            rotate_left
            · intro w'
              go_simp
              with_reducible rfl
            rotate_left
            · simp only [Act.put, List.setIfInBounds_toArray, List.set_cons_zero, List.set_cons_succ, i64_w, i32_w]
              rfl
            refine take_ (i := 4) (N := some 72) (v := ?_) (a' := ?_) #[true, true, true, true, true, false, false, false, false, false, false] rfl rfl (by kernel_rfl) (fun _ _ _ h => h) (Or.inl ⟨by rfl, ?_⟩) hHeld ?_ ?_
            rotate_left
            · rintro w' ⟨s0, s1, s2⟩
              go_simp
              with_reducible rfl
            rotate_left
            · simp only [Act.put, List.setIfInBounds_toArray, List.set_cons_zero, List.set_cons_succ, i64_w, i32_w]
              rfl
            refine take_ (i := 5) (N := some 73) (v := ?_) (a' := ?_) #[true, true, true, true, true, true, false, false, false, false, false] rfl rfl (by kernel_rfl) (fun _ _ _ h => h) (Or.inl ⟨by rfl, ?_⟩) hHeld ?_ ?_
            rotate_left
            · rintro w' ⟨s0, s1, s2⟩
              go_simp
              with_reducible rfl
            rotate_left
            · simp only [Act.put, List.setIfInBounds_toArray, List.set_cons_zero, List.set_cons_succ, i64_w, i32_w]
              rfl
            refine one_ (i := 6) (N := some 74) #[true, true, true, true, true, true, true, false, false, false, false] rfl rfl (by kernel_rfl) (by decide) (fun K hK => ?_)
            refine value_ (v := .slice (some ⟨wz.heap.size, 0, none⟩) 1 1) (w1 := wz.alloc (.cells #[.int .i64 l2, .slice (some ⟨gN, 0, none⟩) us2.length cN] 31)) (by rfl) rfl ?_ ?_
            · first | (go_simp; done) | (go_simp; rfl)
            refine hK.out _ _ ⟨(blk_cell (blk_alloc RN.out.box _) 0).trans rfl, (blk_cell (blk_alloc BT.out _) 0).trans rfl, (blk_cell (blk_alloc BT.out _) 1).trans rfl⟩ (fun hHeld => ?_)
            clear hK K
            refine norm_ (a' := ?_) ?_ ?_
            rotate_left
            · show Act.put _ (some 74) _ = _
              simp only [Act.put, List.setIfInBounds_toArray, List.set_cons_zero, List.set_cons_succ, i64_w, i32_w]
              rfl
            refine one_ (i := 7) (N := some 75) #[true, true, true, true, true, true, true, true, false, false, false] rfl rfl (by kernel_rfl) (by decide) (fun K hK => ?_)
            have lgs := Kd.R_lt RN.out.st gs rfl
            have lgz := Kd.R_lt RN.out.ze gz rfl
            have nsz : gs ≠ gz := fun e_ => (RN.out.st.1 gs rfl).2 (by rw [e_]; rfl)
            have qs : gs < w1.heap.size := RS1.out.1
            have qz : gz < w1.heap.size := RS1.out.2
            have nNs : gN ≠ gs := fun e_ => by omega
            have nNz : gN ≠ gz := fun e_ => by omega
            have n9s : g9 ≠ gs := fun e_ => by have := s1b.out; omega
            refine Kd.R_append_step k31 (w0 := w) w.heap.size (by rfl) (.tmp 72) (.tmp 74) 68 31 (.agg #[.int .i64 0, .slice none 0 0]) 32 rfl Try.underlying68 infoCt rfl (by decide) (by omega) (.slice (some ⟨gs, 0, none⟩) S1.length cs) S1 ⟨l2, us2⟩ [.int .i64 l2, .slice (some ⟨gN, 0, none⟩) us2.length cN] (fun k => True ∧ some k ≠ (Value.slice (some ⟨gz, 0, none⟩) Z1.length cz).ownBlock) (fun k => some k = (Value.slice (some ⟨gN, 0, none⟩) us2.length cN).ownBlock) rfl rfl ?_ ?_ ?_ RN.out.st RN.out.be RN.out.be.size ?_ ?_
            · exact k31_mkM _ _ _ ⟨l2, us2⟩ (Kd.R_lower (Kd.R_tight rfl HN.out) WS1.out)
            · intro k_ hk_
              obtain rfl : k_ = gN := Option.some.inj hk_
              exact ⟨⟨trivial, fun e_ => nNz (Option.some.inj e_)⟩, fun e_ => nNs (Option.some.inj e_)⟩
            · exact fun k_ hk_ => ⟨trivial, fun e_ => Nat.lt_irrefl _ (Nat.lt_of_lt_of_le ((Option.some.inj e_ : k_ = gz) ▸ lgz) hk_)⟩
            · have := HSL.out; omega
            intro v5 w5 ho hb hg hat
            obtain ⟨S2, hS2⟩ : ∃ S2, S2 = S1 ++ [(⟨l2, us2⟩ : S31)] := ⟨_, rfl⟩
            rw [← hS2] at ho
            have hS2l : 0 < S2.length := by rw [hS2]; simp
            obtain ⟨gs2, cs2, e5, _, _, _⟩ := Kd.R_form ho (by omega)
            subst e5
            have B5 := Aside0.mk (blk_grown RN.out.box hg (Kd.R_ne RN.out.st RN.out.box (by decide)))
            replace BT := Aside0.mk (blk_grown BT.out hg (fun e_ => n9s (Option.some.inj e_)))
            have Z5 := Aside0.mk (Kd.R_grown1 RN.out.ze rfl hg (fun e_ => nsz (Option.some.inj e_)))
            have S5 := Aside0.mk ho
            have HB5 := Aside0.mk hb
            have LG := Aside0.mk RN.out.ge
            have HS2 := Aside0.mk hS2
            clear ho hb hg hat RN hS2 HN lgs lgz
            refine hK.out _ _ ⟨(blk_cell B5.out 0).trans rfl, (blk_cell BT.out 0).trans rfl, (blk_cell BT.out 1).trans rfl⟩ (fun hHeld => ?_)
            clear hK K
            refine norm_ (a' := ?_) ?_ ?_
            rotate_left
            · show Act.put _ (some 75) _ = _
              simp only [Act.put, List.setIfInBounds_toArray, List.set_cons_zero, List.set_cons_succ, i64_w, i32_w]
              rfl
            refine pure_ (i := 8) (N := some 76) (v := ?_) (a' := ?_) #[true, true, true, true, true, true, true, true, true, false, false] rfl rfl (by kernel_rfl) (fun _ _ _ h => h) (Or.inl ⟨by rfl, ?_⟩) ?_ ?_
            rotate_left
            · intro w'
              go_simp
              with_reducible rfl
            rotate_left
            · simp only [Act.put, List.setIfInBounds_toArray, List.set_cons_zero, List.set_cons_succ, i64_w, i32_w]
              rfl
            refine pure_ (i := 9) (N := some 77) (v := ?_) (a' := ?_) #[true, true, true, true, true, true, true, true, true, true, false] rfl rfl (by kernel_rfl) (fun _ _ _ h => h) (Or.inl ⟨by rfl, ?_⟩) ?_ ?_
            rotate_left
            · intro w'
              go_simp
              with_reducible rfl
            rotate_left
            · simp only [Act.put, List.setIfInBounds_toArray, List.set_cons_zero, List.set_cons_succ, i64_w, i32_w]
              rfl
            refine last_ (i := 10) (N := none) #[true, true, true, true, true, true, true, true, true, true, true] rfl rfl (by kernel_rfl) (by decide) (fun K hK => ?_)
            have q0 := (blk_cell B5.out 0).trans rfl
            have fq0 := blk_frozen B5.out 0
            refine skip_ (w1 := w5.setCell ⟨g, 0, none⟩ (.slice (some ⟨gs2, 0, none⟩) S2.length cs2)) (by rfl) rfl ?_ ?_
            · first | (go_simp; done) | (go_simp; rfl)
            refine hK.out _ _ ?_
            clear hK K hHeld q0 fq0
            refine done_ (by kernel_rfl) ?_
            have R6 : Run w (w5.setCell ⟨g, 0, none⟩ (.slice (some ⟨gs2, 0, none⟩) S2.length cs2)) g gs2 cs2 gz cz S2 Z1 false := ⟨blk_put (cs := #[.slice (some ⟨gs, 0, none⟩) S1.length cs, .slice (some ⟨gz, 0, none⟩) Z1.length cz, .bool false]) B5.out 0 _ rfl, Kd.R_set S5.out B5.out (by decide) 0 _, Kd.R_set Z5.out B5.out (by decide) 0 _, below_set HB5.out LG.out, LG.out⟩
            generalize w5.setCell ⟨g, 0, none⟩ (.slice (some ⟨gs2, 0, none⟩) S2.length cs2) = w6 at R6 ⊢
            have RN := Aside0.mk R6
            clear R6 B5 BT Z5 S5 HB5 LG
            have s1 : w6.cell? ⟨g, 1, none⟩ = some (.slice (some ⟨gz, 0, none⟩) Z1.length cz) := (blk_cell RN.out.box 1).trans rfl
            go_wp2_with (first
              | ((with_reducible refine gate_builtin (b := .append) (xs := #[.tmp 82, .tmp 84]) rfl ?_); at_builtin; refine Kd.R_append (Kd.int .i64) (w0 := w) w.heap.size rfl (.tmp 82) (.tmp 84) 23 3 (.int .i64 0) 8 rfl Try.underlying23 info3 rfl (by decide) (by omega) (.slice (some ⟨gz, 0, none⟩) Z1.length cz) Z1 z [.int .i64 z] (fun _ => True) (fun _ => False) rfl rfl rfl (fun _ h => h.elim) (fun _ _ => trivial) RN.out.ze RN.out.be RN.out.be.size (by have := HZL.out; omega) ?_; intro v7 w7 ho hb hg hat; obtain ⟨Z2, hZ2⟩ : ∃ Z2, Z2 = Z1 ++ [z] := ⟨_, rfl⟩; rw [← hZ2] at ho; have hZ2l : 0 < Z2.length := (by rw [hZ2]; simp); obtain ⟨gz2, cz2, e7, _, _, _⟩ := Kd.R_form ho (by omega); subst e7; have B7 := Aside0.mk (blk_grown RN.out.box hg (Kd.R_ne RN.out.ze RN.out.box (by decide))); have S7 := Aside0.mk (Kd.R_after RN.out.st hg hat); have Z7 := Aside0.mk ho; have HB7 := Aside0.mk hb; have LG := Aside0.mk RN.out.ge; have HZ2 := Aside0.mk hZ2; clear ho hb hg hat RN hZ2 s1; have q1 := (blk_cell B7.out 1).trans rfl; have fq1 := blk_frozen B7.out 1)
              | fail)
            have HX2 : Aside0 (S1 ++ (makeL l0 (N - (k + 1)) ((k + 1 : Nat) : Int) l2 us2 z).1 = r1 ∧ Z1 ++ (makeL l0 (N - (k + 1)) ((k + 1 : Nat) : Int) l2 us2 z).2.1 = r2 ∧ (makeL l0 (N - (k + 1)) ((k + 1 : Nat) : Int) l2 us2 z).2.2 = r3) := ⟨by
              rw [show N - (k + 1) = m by omega, HS1.out, HZ1.out, List.append_assoc, List.append_assoc]
              simpa using HX.out⟩
            clear HX
            go_roundw
            case rel => exact ⟨k + 1, S1, Z1, gs2, cs2, gz2, cz2, l2, us2, z, by go_num, by omega, HSL.out, HZL.out, HX2, SO2, ⟨by rw [← HS2.out, ← HZ2.out]; exact ⟨blk_put (cs := #[.slice (some ⟨gs2, 0, none⟩) S2.length cs2, .slice (some ⟨gz, 0, none⟩) Z1.length cz, .bool false]) B7.out 1 _ rfl, Kd.R_set S7.out B7.out (by decide) 1 _, Kd.R_set Z7.out B7.out (by decide) 1 _, below_set HB7.out LG.out, LG.out⟩⟩⟩
            case measure => simp [intOf]; omega
          | true =>
            go_wp2_with (first
              | (go_at_call 45; (with_reducible refine (ctStep_own _ _ l0 ln _ _ us l2 us2 true true _ ?c1 HC1.out ?c2 XL.out SO.out HNH.out HK5.out).mono ?_); (case c1 => exact Kd.C_below H1.out RN.out.be); (case c2 => exact XC.out); rintro e wS ⟨vN, rfl, ho, hb⟩; have s1b := Aside0.mk hb.size; replace s0 := pw_cell_below hb s0; replace Y0 := Aside0.mk (pw_cell_below hb Y0.out); replace RN := Aside0.mk (RN.out.below hb); have HN := Aside0.mk ho; obtain ⟨gN, cN, eN, gNb, gNl, _⟩ := Kd.R_form HN.out (by rw [hln]; exact hv1); subst eN; clear hb ho x0 x1)
              | ((with_reducible refine gate_dst (N := 9) rfl ?_); refine box_event ?hg (N := 9) ?hd (cs := #[.int .i64 0, .slice none 0 0]) (t := 31) ?hr ?_; (case hd => rfl); (case hg => rfl); (case hr => first | (go_simp; done) | (go_simp; rfl)); intro g9 hg w9 hbox hb; have l9 : wS.heap.size ≤ g9 := (by rw [hg]; exact Nat.le_refl _); replace s0 := pw_cell_below hb s0; have HB9 := Aside0.mk hb; have B9 := Aside0.mk hbox; clear hg hbox hb; have y90 := (blk_cell B9.out 0).trans rfl; have y91 := (blk_cell B9.out 1).trans rfl; have f90 := blk_frozen B9.out 0; have f91 := blk_frozen B9.out 1)
              | ((with_reducible refine gate_store (t := 31) (p := 9) rfl ?_); refine store_event (t := 31) (p := 9) (v := ?vo) (w1 := (w9.setCell ⟨g9, 0, none⟩ (.int .i64 l2)).setCell ⟨g9, 1, none⟩ (.slice (some ⟨gN, 0, none⟩) us2.length cN)) ?hg ?ho ?hn ?hr ?_; (case ho => rfl); (case hg => rfl); (case hn => rfl); (case hr => first | (go_simp; done) | (go_simp; rfl)); intro wT hw; have hbT : Below wS.heap.size wS wT := (by rw [hw]; exact below_set (below_set HB9.out l9) l9); have b9 : wT.heap[g9]? = some (.cells #[.int .i64 l2, .slice (some ⟨gN, 0, none⟩) us2.length cN] 31 (0, 0)) := (by rw [hw]; exact blk_put (cs := #[.int .i64 l2, .slice none 0 0]) (blk_put (cs := #[.int .i64 0, .slice none 0 0]) B9.out 0 _ rfl) 1 _ rfl); have BT := Aside0.mk b9; replace RN := Aside0.mk (RN.out.below hbT); replace HN := Aside0.mk (Kd.R_below HN.out hbT); replace Y0 := Aside0.mk (pw_cell_below hbT Y0.out); have ST := Aside0.mk hbT.size; clear hbT b9 hw s0 B9 HB9 y90 y91 f90 f91; have y0 := Y0.out; have s1 : wT.cell? ⟨g, 1, none⟩ = some (.slice (some adz) Z1.length cz) := (by rw [← EZ.out]; exact (blk_cell RN.out.box 1).trans rfl); have s2 : wT.cell? ⟨g, 2, none⟩ = some (.bool false) := (blk_cell RN.out.box 2).trans rfl; have fs2 := blk_frozen RN.out.box 2)
              | fail)
            clear s1 s2 fs2 y0
            refine start_ (n := 11) (S := fun w' => w'.cell? ⟨g, 0, none⟩ = some (.slice (some ⟨gs, 0, none⟩) S1.length cs) ∧ w'.cell? ⟨g9, 0, none⟩ = some (.int .i64 l2) ∧ w'.cell? ⟨g9, 1, none⟩ = some (.slice (some ⟨gN, 0, none⟩) us2.length cN)) (ds := [10]) #[false, false, false, false, false, false, false, false, false, false, false] (by kernel_rfl) rfl rfl ⟨(blk_cell RN.out.box 0).trans rfl, (blk_cell BT.out 0).trans rfl, (blk_cell BT.out 1).trans rfl⟩ (fun hHeld => ?_)
            refine Own.anew_ (wN := wT) (by repeat (first | with_reducible exact Below.refl _ _ | with_reducible apply below_alloc | with_reducible apply pw_below_drewN | with_reducible apply below_drew1)) hHeld (fun wz hzb hHeld => ?_)
            replace RN := Aside0.mk (RN.out.below hzb)
            replace BT := Aside0.mk (blk_below BT.out hzb)
            replace HN := Aside0.mk (Kd.R_below HN.out hzb)
            have SZ := Aside0.mk hzb.size
            clear hzb
            refine pure_ (i := 0) (N := some 68) (v := ?_) (a' := ?_) #[true, false, false, false, false, false, false, false, false, false, false] rfl rfl (by kernel_rfl) (fun _ _ _ h => h) (Or.inl ⟨by rfl, ?_⟩) ?_ ?_
            rotate_left
            · intro w'
              go_simp
              with_reducible rfl
            rotate_left
            · simp only [Act.put, List.setIfInBounds_toArray, List.set_cons_zero, List.set_cons_succ, i64_w, i32_w]
              rfl
            refine pure_ (i := 1) (N := some 69) (v := ?_) (a' := ?_) #[true, true, false, false, false, false, false, false, false, false, false] rfl rfl (by kernel_rfl) (fun _ _ _ h => h) (Or.inl ⟨by rfl, ?_⟩) ?_ ?_
            rotate_left
            · intro w'
              go_simp
              with_reducible rfl
            rotate_left
            · simp only [Act.put, List.setIfInBounds_toArray, List.set_cons_zero, List.set_cons_succ, i64_w, i32_w]
              rfl
            refine pure_ (i := 2) (N := some 70) (v := ?_) (a' := ?_) #[true, true, true, false, false, false, false, false, false, false, false] rfl rfl (by kernel_rfl) (fun _ _ _ h => h) (Or.inl ⟨by rfl, ?_⟩) ?_ ?_
            rotate_left
            · intro w'
              go_simp
              with_reducible rfl
            rotate_left
            · simp only [Act.put, List.setIfInBounds_toArray, List.set_cons_zero, List.set_cons_succ, i64_w, i32_w]
              rfl
            refine pure_ (i := 3) (N := some 71) (v := ?_) (a' := ?_) #[true, true, true, true, false, false, false, false, false, false, false] rfl rfl (by kernel_rfl) (fun _ _ _ h => h) (Or.inl ⟨by rfl, ?_⟩) ?_ ?_
            rotate_left
            · intro w'
              go_simp
              with_reducible rfl
            rotate_left
            · simp only [Act.put, List.setIfInBounds_toArray, List.set_cons_zero, List.set_cons_succ, i64_w, i32_w]
              rfl
            refine take_ (i := 4) (N := some 72) (v := ?_) (a' := ?_) #[true, true, true, true, true, false, false, false, false, false, false] rfl rfl (by kernel_rfl) (fun _ _ _ h => h) (Or.inl ⟨by rfl, ?_⟩) hHeld ?_ ?_
            rotate_left
            · rintro w' ⟨s0, s1, s2⟩
              go_simp
              with_reducible rfl
            rotate_left
            · simp only [Act.put, List.setIfInBounds_toArray, List.set_cons_zero, List.set_cons_succ, i64_w, i32_w]
              rfl
            refine take_ (i := 5) (N := some 73) (v := ?_) (a' := ?_) #[true, true, true, true, true, true, false, false, false, false, false] rfl rfl (by kernel_rfl) (fun _ _ _ h => h) (Or.inl ⟨by rfl, ?_⟩) hHeld ?_ ?_
            rotate_left
            · rintro w' ⟨s0, s1, s2⟩
              go_simp
              with_reducible rfl
            rotate_left
            · simp only [Act.put, List.setIfInBounds_toArray, List.set_cons_zero, List.set_cons_succ, i64_w, i32_w]
              rfl
            refine one_ (i := 6) (N := some 74) #[true, true, true, true, true, true, true, false, false, false, false] rfl rfl (by kernel_rfl) (by decide) (fun K hK => ?_)
            refine value_ (v := .slice (some ⟨wz.heap.size, 0, none⟩) 1 1) (w1 := wz.alloc (.cells #[.int .i64 l2, .slice (some ⟨gN, 0, none⟩) us2.length cN] 31)) (by rfl) rfl ?_ ?_
            · first | (go_simp; done) | (go_simp; rfl)
            refine hK.out _ _ ⟨(blk_cell (blk_alloc RN.out.box _) 0).trans rfl, (blk_cell (blk_alloc BT.out _) 0).trans rfl, (blk_cell (blk_alloc BT.out _) 1).trans rfl⟩ (fun hHeld => ?_)
            clear hK K
            refine norm_ (a' := ?_) ?_ ?_
            rotate_left
            · show Act.put _ (some 74) _ = _
              simp only [Act.put, List.setIfInBounds_toArray, List.set_cons_zero, List.set_cons_succ, i64_w, i32_w]
              rfl
            refine one_ (i := 7) (N := some 75) #[true, true, true, true, true, true, true, true, false, false, false] rfl rfl (by kernel_rfl) (by decide) (fun K hK => ?_)
            have lgs := Kd.R_lt RN.out.st gs rfl
            have lgz := Kd.R_lt RN.out.ze gz rfl
            have nsz : gs ≠ gz := fun e_ => (RN.out.st.1 gs rfl).2 (by rw [e_]; rfl)
            have qs : gs < w1.heap.size := RS1.out.1
            have qz : gz < w1.heap.size := RS1.out.2
            have nNs : gN ≠ gs := fun e_ => by omega
            have nNz : gN ≠ gz := fun e_ => by omega
            have n9s : g9 ≠ gs := fun e_ => by have := s1b.out; omega
            refine Kd.R_append_step k31 (w0 := w) w.heap.size (by rfl) (.tmp 72) (.tmp 74) 68 31 (.agg #[.int .i64 0, .slice none 0 0]) 32 rfl Try.underlying68 infoCt rfl (by decide) (by omega) (.slice (some ⟨gs, 0, none⟩) S1.length cs) S1 ⟨l2, us2⟩ [.int .i64 l2, .slice (some ⟨gN, 0, none⟩) us2.length cN] (fun k => True ∧ some k ≠ (Value.slice (some ⟨gz, 0, none⟩) Z1.length cz).ownBlock) (fun k => some k = (Value.slice (some ⟨gN, 0, none⟩) us2.length cN).ownBlock) rfl rfl ?_ ?_ ?_ RN.out.st RN.out.be RN.out.be.size ?_ ?_
            · exact k31_mkM _ _ _ ⟨l2, us2⟩ (Kd.R_lower (Kd.R_tight rfl HN.out) WS1.out)
            · intro k_ hk_
              obtain rfl : k_ = gN := Option.some.inj hk_
              exact ⟨⟨trivial, fun e_ => nNz (Option.some.inj e_)⟩, fun e_ => nNs (Option.some.inj e_)⟩
            · exact fun k_ hk_ => ⟨trivial, fun e_ => Nat.lt_irrefl _ (Nat.lt_of_lt_of_le ((Option.some.inj e_ : k_ = gz) ▸ lgz) hk_)⟩
            · have := HSL.out; omega
            intro v5 w5 ho hb hg hat
            obtain ⟨S2, hS2⟩ : ∃ S2, S2 = S1 ++ [(⟨l2, us2⟩ : S31)] := ⟨_, rfl⟩
            rw [← hS2] at ho
            have hS2l : 0 < S2.length := by rw [hS2]; simp
            obtain ⟨gs2, cs2, e5, _, _, _⟩ := Kd.R_form ho (by omega)
            subst e5
            have B5 := Aside0.mk (blk_grown RN.out.box hg (Kd.R_ne RN.out.st RN.out.box (by decide)))
            replace BT := Aside0.mk (blk_grown BT.out hg (fun e_ => n9s (Option.some.inj e_)))
            have Z5 := Aside0.mk (Kd.R_grown1 RN.out.ze rfl hg (fun e_ => nsz (Option.some.inj e_)))
            have S5 := Aside0.mk ho
            have HB5 := Aside0.mk hb
            have LG := Aside0.mk RN.out.ge
            have HS2 := Aside0.mk hS2
            clear ho hb hg hat RN hS2 HN lgs lgz
            refine hK.out _ _ ⟨(blk_cell B5.out 0).trans rfl, (blk_cell BT.out 0).trans rfl, (blk_cell BT.out 1).trans rfl⟩ (fun hHeld => ?_)
            clear hK K
            refine norm_ (a' := ?_) ?_ ?_
            rotate_left
            · show Act.put _ (some 75) _ = _
              simp only [Act.put, List.setIfInBounds_toArray, List.set_cons_zero, List.set_cons_succ, i64_w, i32_w]
              rfl
            refine pure_ (i := 8) (N := some 76) (v := ?_) (a' := ?_) #[true, true, true, true, true, true, true, true, true, false, false] rfl rfl (by kernel_rfl) (fun _ _ _ h => h) (Or.inl ⟨by rfl, ?_⟩) ?_ ?_
            rotate_left
            · intro w'
              go_simp
              with_reducible rfl
            rotate_left
            · simp only [Act.put, List.setIfInBounds_toArray, List.set_cons_zero, List.set_cons_succ, i64_w, i32_w]
              rfl
            refine pure_ (i := 9) (N := some 77) (v := ?_) (a' := ?_) #[true, true, true, true, true, true, true, true, true, true, false] rfl rfl (by kernel_rfl) (fun _ _ _ h => h) (Or.inl ⟨by rfl, ?_⟩) ?_ ?_
            rotate_left
            · intro w'
              go_simp
              with_reducible rfl
            rotate_left
            · simp only [Act.put, List.setIfInBounds_toArray, List.set_cons_zero, List.set_cons_succ, i64_w, i32_w]
              rfl
            refine last_ (i := 10) (N := none) #[true, true, true, true, true, true, true, true, true, true, true] rfl rfl (by kernel_rfl) (by decide) (fun K hK => ?_)
            have q0 := (blk_cell B5.out 0).trans rfl
            have fq0 := blk_frozen B5.out 0
            refine skip_ (w1 := w5.setCell ⟨g, 0, none⟩ (.slice (some ⟨gs2, 0, none⟩) S2.length cs2)) (by rfl) rfl ?_ ?_
            · first | (go_simp; done) | (go_simp; rfl)
            refine hK.out _ _ ?_
            clear hK K hHeld q0 fq0
            refine done_ (by kernel_rfl) ?_
            have R6 : Run w (w5.setCell ⟨g, 0, none⟩ (.slice (some ⟨gs2, 0, none⟩) S2.length cs2)) g gs2 cs2 gz cz S2 Z1 false := ⟨blk_put (cs := #[.slice (some ⟨gs, 0, none⟩) S1.length cs, .slice (some ⟨gz, 0, none⟩) Z1.length cz, .bool false]) B5.out 0 _ rfl, Kd.R_set S5.out B5.out (by decide) 0 _, Kd.R_set Z5.out B5.out (by decide) 0 _, below_set HB5.out LG.out, LG.out⟩
            generalize w5.setCell ⟨g, 0, none⟩ (.slice (some ⟨gs2, 0, none⟩) S2.length cs2) = w6 at R6 ⊢
            have RN := Aside0.mk R6
            clear R6 B5 BT Z5 S5 HB5 LG
            have s1 : w6.cell? ⟨g, 1, none⟩ = some (.slice (some ⟨gz, 0, none⟩) Z1.length cz) := (blk_cell RN.out.box 1).trans rfl
            go_wp2_with (first
              | ((with_reducible refine gate_builtin (b := .append) (xs := #[.tmp 82, .tmp 84]) rfl ?_); at_builtin; refine Kd.R_append (Kd.int .i64) (w0 := w) w.heap.size rfl (.tmp 82) (.tmp 84) 23 3 (.int .i64 0) 8 rfl Try.underlying23 info3 rfl (by decide) (by omega) (.slice (some ⟨gz, 0, none⟩) Z1.length cz) Z1 (k : Int) [.int .i64 (k : Int)] (fun _ => True) (fun _ => False) rfl rfl rfl (fun _ h => h.elim) (fun _ _ => trivial) RN.out.ze RN.out.be RN.out.be.size (by have := HZL.out; omega) ?_; intro v7 w7 ho hb hg hat; obtain ⟨Z2, hZ2⟩ : ∃ Z2, Z2 = Z1 ++ [(k : Int)] := ⟨_, rfl⟩; rw [← hZ2] at ho; have hZ2l : 0 < Z2.length := (by rw [hZ2]; simp); obtain ⟨gz2, cz2, e7, _, _, _⟩ := Kd.R_form ho (by omega); subst e7; have B7 := Aside0.mk (blk_grown RN.out.box hg (Kd.R_ne RN.out.ze RN.out.box (by decide))); have S7 := Aside0.mk (Kd.R_after RN.out.st hg hat); have Z7 := Aside0.mk ho; have HB7 := Aside0.mk hb; have LG := Aside0.mk RN.out.ge; have HZ2 := Aside0.mk hZ2; clear ho hb hg hat RN hZ2 s1; have q1 := (blk_cell B7.out 1).trans rfl; have fq1 := blk_frozen B7.out 1)
              | fail)
            have HX2 : Aside0 (S1 ++ (makeL l0 (N - (k + 1)) ((k + 1 : Nat) : Int) l2 us2 (k : Int)).1 = r1 ∧ Z1 ++ (makeL l0 (N - (k + 1)) ((k + 1 : Nat) : Int) l2 us2 (k : Int)).2.1 = r2 ∧ (makeL l0 (N - (k + 1)) ((k + 1 : Nat) : Int) l2 us2 (k : Int)).2.2 = r3) := ⟨by
              rw [show N - (k + 1) = m by omega, HS1.out, HZ1.out, List.append_assoc, List.append_assoc]
              simpa using HX.out⟩
            clear HX
            go_roundw
            case rel => exact ⟨k + 1, S1, Z1, gs2, cs2, gz2, cz2, l2, us2, (k : Int), by go_num, by omega, HSL.out, HZL.out, HX2, SO2, ⟨by rw [← HS2.out, ← HZ2.out]; exact ⟨blk_put (cs := #[.slice (some ⟨gs2, 0, none⟩) S2.length cs2, .slice (some ⟨gz, 0, none⟩) Z1.length cz, .bool false]) B7.out 1 _ rfl, Kd.R_set S7.out B7.out (by decide) 1 _, Kd.R_set Z7.out B7.out (by decide) 1 _, below_set HB7.out LG.out, LG.out⟩⟩⟩
            case measure => simp [intOf]; omega
    · have hh := HH.out
      rw [show N - k = 0 by omega] at hh
      simp only [makeL] at hh
      obtain ⟨hh1, hh2, hh3⟩ := hh
      rw [← HS1.out] at hh1
      rw [← HZ1.out] at hh2
      subst hh1 hh2 hh3
      clear HH
      go_wp2
      go_ret
      exact ⟨g, rfl, gs, cs, gz, cz, RN.out⟩
end Go.Proofs.Ytbcphkblieeemaa.P
