/- The walk of spec.ctStep (printed by gen_run.py), where the program has not halted. -/
import Derived.Test.YtbcphkblieeemaaZFnExactIsEndless0
import Derived.Test.YtbcphkblieeemaaYFnExactIsEndlessARun
namespace Go.Proofs.Ytbcphkblieeemaa.P
open Go.RowKit Go.Proofs.YtbcphkblieeemaaW.PrintWords Go.Proofs.YtbcphkblieeemaaW.PrintLast Go.Proofs.YtbcphkblieeemaaW.PrintMore Go.Proofs.Ytbcphkblieeemaa.Own Go.Proofs.Ytbcphkblieeemaa.A
set_option linter.unusedVariables false
set_option linter.unusedSimpArgs false
/-- What a step answers. -/
def stepZ (l : List S55) (line : Int) (vs : List Int) : Int × List Int × Bool × Bool := if (stepL l line vs).2.2 = true then ((stepL l line vs).1, (stepL l line vs).2.1, zeroL l line vs, true) else (0, [], false, false)
set_option maxHeartbeats 4000000 in
set_option maxRecDepth 100000 in
theorem ctStep_own (A0 : Option Addr) (c0 : Nat) (l0 : List S55) (a1_0 : Int) (A1_1 : Option Addr) (c1_1 : Nat) (l1_1 : List Int) (r1 : Int) (r2 : List Int) (r3 r4 : Bool) (w : World) (hr0 : Kd.C k55 w A0 l0.length l0) (hc0 : l0.length ≤ c0) (hr1_1 : Kd.C (Kd.int .i64) w A1_1 l1_1.length l1_1) (hc1_1 : l1_1.length ≤ c1_1) (hok : StOk l0 a1_0 l1_1) (hh : ¬ hLt l0 a1_0) (h : stepZ l0 a1_0 l1_1 = (r1, r2, r3, r4)) :
    Calls Try.prog 45 #[.slice A0 l0.length c0, .agg #[.int .i64 a1_0, .slice A1_1 l1_1.length c1_1]] w fun e w' => ∃ v1_ : Value, e = .returned (.tuple #[.agg #[.int .i64 r1, v1_], .bool r3, .bool r4]) ∧ Kd.R (Kd.int .i64) 3 w' w.heap.size (fun _ => True) v1_ r2 ∧ Below w.heap.size w w' := by
  have hu := Try.underlying31
  have hu55 := Try.underlying55
  have hn := hok.2.1
  have hl1 : ¬ a1_0 = (l0.length : Int) := fun e => hh (.inl e)
  have hlt : a1_0 < (l0.length : Int) := by omega
  have hl20 : l0.length ≤ 20 := hok.1.2.2.2.2
  have hx := okAt hok hlt
  unfold OkI at hx
  have hv1 : 0 < l1_1.length := by have := hok.1.2.1; omega
  have hv4 : l1_1.length ≤ 4 := by have := hok.1.2.2.1; omega
  obtain ⟨ad, ea, x0, x1, x2⟩ := at_T55 hr0 a1_0 hn.1 hlt
  subst ea
  have HHt : Aside0 (spec_ctHalted.f l0 a1_0 l1_1 = some false) := ⟨by rw [specHalted hok]; exact congrArg some (decide_eq_false hh)⟩
  unfold stepZ at h
  have ez : zeroL l0 a1_0 l1_1 = decide ((rd_T55 l0 a1_0).f0 = 1 ∧ rd l1_1 (rd_T55 l0 a1_0).f1 = 0) := by
    unfold zeroL; rw [decide_eq_decide]; exact ⟨fun a => a.2, fun a => ⟨hh, a⟩⟩
  rw [ez] at h
  unfold stepL at h
  rw [if_neg (show ¬ (a1_0 = (l0.length : Int) ∨ (rd_T55 l0 a1_0).f0 = 3) from hh)] at h
  have h3 : ¬ (rd_T55 l0 a1_0).f0 = 3 := fun e => hh (.inr e)
  obtain ⟨kd, hkd⟩ : ∃ x, x = (rd_T55 l0 a1_0).f0 := ⟨_, rfl⟩
  obtain ⟨ci, hci⟩ : ∃ x, x = (rd_T55 l0 a1_0).f1 := ⟨_, rfl⟩
  obtain ⟨tg, htg⟩ : ∃ x, x = (rd_T55 l0 a1_0).f2 := ⟨_, rfl⟩
  rw [← hkd, ← hci, ← htg] at h hx
  rw [← hkd] at x0 h3
  rw [← hci] at x1
  rw [← htg] at x2
  have hm := hok.2.2 _ (rd_in hx.2.2.1 hx.2.2.2.1)
  obtain ⟨adv, ev, hv⟩ := Kd.at_int hr1_1 ci hx.2.2.1 hx.2.2.2.1
  subst ev
  obtain ⟨va, hva⟩ : ∃ v, v = rd l1_1 ci := ⟨_, rfl⟩
  rw [← hva] at h hm hv
  obtain ⟨⟨s1, s2, s3⟩, hs⟩ : ∃ s, s = (if kd = 0 then (if va = 10000 then (a1_0, l1_1, false) else (a1_0 + 1, l1_1.set ci.toNat (va + 1), true)) else if kd = 1 then (if va = 0 then (tg, l1_1, true) else (a1_0 + 1, l1_1.set ci.toNat (va - 1), true)) else (tg, l1_1, true) : Int × List Int × Bool) := ⟨_, rfl⟩
  rw [← hs] at h
  simp only at h
  have HSS := Aside0.mk hs
  clear hs
  have hc0' : 0 ≤ ci := hx.2.2.1
  have hc1' : ci < (l1_1.length : Int) := hx.2.2.2.1
  have hkk : kd = 0 ∨ kd = 1 ∨ kd = 2 := by omega
  have HW1 : Aside0 (wrap64 (a1_0 + 1) = a1_0 + 1) := ⟨by unfold wrap64; omega⟩
  have OWN := Aside0.mk (l1Own l1_1 (by omega))
  have H1 := Aside0.mk hr0
  have H2 := Aside0.mk hr1_1
  have HC1 := Aside0.mk hc0
  have HC2 := Aside0.mk hc1_1
  have H := Aside0.mk h
  have HVA := Aside0.mk hva
  have hn0 := hn.1
  clear hr0 hr1_1 hc0 hc1_1 hok hh hl1 hn hx ez h3 h hkd hci htg hva
  go_enter Try.func45, Try.ntmps45
  go_wp2_with (first
    | ((with_reducible refine gate_dst (N := 3) rfl ?_); refine box_event ?hg (N := 3) ?hd (cs := #[.int .i64 a1_0, .slice (some adv) l1_1.length c1_1]) (t := 31) ?hr ?_; (case hd => rfl); (case hg => rfl); (case hr => first | (go_simp; done) | (go_simp; rfl)); intro g3 hg w3 hbox hb; have B3 := Aside0.mk hbox; have HB := Aside0.mk hb; have L3 : Aside0 (w.heap.size ≤ g3) := ⟨(by rw [hg]; exact Nat.le_refl _)⟩; clear hg hbox hb)
    | ((with_reducible refine gate_dst (N := 4) rfl ?_); refine box_event ?hg (N := 4) ?hd (cs := #[.int .i64 0, .slice none 0 0]) (t := 31) ?hr ?_; (case hd => rfl); (case hg => rfl); (case hr => first | (go_simp; done) | (go_simp; rfl)); intro g4 hg w4 hbox hb; have N34 : g3 ≠ g4 := (by rw [hg]; exact Nat.ne_of_lt (blk_lt B3.out)); have L4 : Aside0 (w.heap.size ≤ g4) := ⟨(by rw [hg]; exact HB.out.size)⟩; have B4 := Aside0.mk hbox; replace B3 := Aside0.mk (blk_below B3.out hb); replace HB := Aside0.mk (below_step HB.out hb); clear hg hbox hb; have z0 := (blk_cell B3.out 0).trans rfl; have z1 := (blk_cell B3.out 1).trans rfl)
    | fail)
  clear z0 z1
  refine start_ (n := 9) (S := fun w' => w'.cell? ⟨g3, 0, none⟩ = some (.int .i64 a1_0) ∧ w'.cell? ⟨g3, 1, none⟩ = some (.slice (some adv) l1_1.length c1_1)) (ds := []) #[false, false, false, false, false, false, false, false, false] (by kernel_rfl) rfl rfl ⟨(blk_cell B3.out 0).trans rfl, (blk_cell B3.out 1).trans rfl⟩ (fun hHeld => ?_)
  refine Own.anew_ (wN := w4) (by repeat (first | with_reducible exact Below.refl _ _ | with_reducible apply below_alloc | with_reducible apply pw_below_drewN | with_reducible apply below_drew1)) hHeld (fun wz hzb hHeld => ?_)
  have HZB := Aside0.mk hzb
  have BZ3 := Aside0.mk (blk_below B3.out hzb)
  have BZ4 := Aside0.mk (blk_below B4.out hzb)
  have SRC := Aside0.mk (Kd.C_below (Kd.C_below H2.out HB.out) hzb)
  have HZ := Aside0.mk (Below.refl wz.heap.size wz)
  clear hzb
  refine pure_ (i := 0) (N := some 9) (v := ?_) (a' := ?_) #[true, false, false, false, false, false, false, false, false] rfl rfl (by kernel_rfl) (fun _ _ _ h => h) (Or.inl ⟨by rfl, ?_⟩) ?_ ?_
  rotate_left
  · intro w'
    go_simp
    with_reducible rfl
  rotate_left
  · simp only [Act.put, List.setIfInBounds_toArray, List.set_cons_zero, List.set_cons_succ, i64_w, i32_w]
    rfl
  refine pure_ (i := 3) (N := some 12) (v := ?_) (a' := ?_) #[true, false, false, true, false, false, false, false, false] rfl rfl (by kernel_rfl) (fun _ _ _ h => h) (Or.inl ⟨by rfl, ?_⟩) ?_ ?_
  rotate_left
  · intro w'
    go_simp
    with_reducible rfl
  rotate_left
  · simp only [Act.put, List.setIfInBounds_toArray, List.set_cons_zero, List.set_cons_succ, i64_w, i32_w]
    rfl
  refine take_ (i := 1) (N := some 10) (v := ?_) (a' := ?_) #[true, true, false, true, false, false, false, false, false] rfl rfl (by kernel_rfl) (fun _ _ _ h => h) (Or.inl ⟨by rfl, ?_⟩) hHeld ?_ ?_
  rotate_left
  · rintro w' ⟨s0, s1⟩
    go_simp
    with_reducible rfl
  rotate_left
  · simp only [Act.put, List.setIfInBounds_toArray, List.set_cons_zero, List.set_cons_succ, i64_w, i32_w]
    rfl
  refine pure_ (i := 2) (N := some 11) (v := ?_) (a' := ?_) #[true, true, true, true, false, false, false, false, false] rfl rfl (by kernel_rfl) (fun _ _ _ h => h) (Or.inl ⟨by rfl, ?_⟩) ?_ ?_
  rotate_left
  · intro w'
    go_simp
    with_reducible rfl
  rotate_left
  · simp only [Act.put, List.setIfInBounds_toArray, List.set_cons_zero, List.set_cons_succ, i64_w, i32_w]
    rfl
  refine take_ (i := 4) (N := some 13) (v := ?_) (a' := ?_) #[true, true, true, true, true, false, false, false, false] rfl rfl (by kernel_rfl) (fun _ _ _ h => h) (Or.inl ⟨by rfl, ?_⟩) hHeld ?_ ?_
  rotate_left
  · rintro w' ⟨s0, s1⟩
    go_simp
    with_reducible rfl
  rotate_left
  · simp only [Act.put, List.setIfInBounds_toArray, List.set_cons_zero, List.set_cons_succ, i64_w, i32_w]
    rfl
  refine join_ (σ := Nat × Nat × Nat) 1 #[true, true, true, true, true, true, true, true, false] (fun s_ => [(14, .slice (some ⟨s_.1, 0, none⟩) l1_1.length s_.2.1), (7, .pointer (some ⟨s_.2.2, 0, none⟩)), (15, .agg #[.int .i64 (wrap64 (a1_0 + 1)), .slice (some ⟨s_.1, 0, none⟩) l1_1.length s_.2.1])]) (fun s_ w' => (w'.cell? ⟨g3, 0, none⟩ = some (.int .i64 a1_0) ∧ w'.cell? ⟨g3, 1, none⟩ = some (.slice (some adv) l1_1.length c1_1)) ∧ Kd.R (Kd.int .i64) 3 w' wz.heap.size (fun _ => True) (.slice (some ⟨s_.1, 0, none⟩) l1_1.length s_.2.1) l1_1 ∧ w'.heap[s_.2.2]? = some (.cells #[.int .i64 0, .slice none 0 0] 31 (0, 0)) ∧ wz.heap.size ≤ s_.2.2 ∧ Below wz.heap.size wz w') ?_ ?_
  rotate_left
  · intro hCont
    refine two_ (i := 5) (j := 7) (Ni := some 14) (Nj := some 7) #[true, true, true, true, true, true, false, false, false] #[true, true, true, true, true, false, false, true, false] rfl rfl rfl rfl (by kernel_rfl) (by decide) (by decide) (fun K hK => ?_) (fun K hK => ?_)
    · skip
      refine goes_ Try.func51 (by kernel_rfl) rfl #[.slice (some adv) l1_1.length c1_1] (by rfl) rfl rfl (by (try simp only [List.map_toArray, List.map_cons, List.map_nil]); first | done | rfl) ?_
      with_reducible refine (spec_l1Own.calls _ _ l1_1 l1_1 _ (Kd.C_below SRC.out HZ.out) HC2.out OWN.out).mono ?_
      rintro e wo ⟨vo, rfl, ho, hb⟩
      refine ⟨_, rfl, ?_⟩
      have so_ := HZ.out.size
      replace HZ := Aside0.mk (below_step HZ.out hb)
      obtain ⟨gO, cO, eO, _, _, _⟩ := Kd.R_form ho hv1
      subst eO
      have HO := Aside0.mk (Kd.R_lower ho so_)
      clear ho hb so_
      refine hK.out _ _ ⟨(blk_cell (blk_below BZ3.out HZ.out) 0).trans rfl, (blk_cell (blk_below BZ3.out HZ.out) 1).trans rfl⟩ (fun hHeld => ?_)
      clear hK K
      refine norm_ (a' := ?_) ?_ ?_
      rotate_left
      · show Act.put _ (some 14) _ = _
        simp only [Act.put, List.setIfInBounds_toArray, List.set_cons_zero, List.set_cons_succ, i64_w, i32_w]
        rfl
      refine pure_ (i := 6) (N := some 15) (v := ?_) (a' := ?_) #[true, true, true, true, true, true, true, false, false] rfl rfl (by kernel_rfl) (fun _ _ _ h => h) (Or.inl ⟨by rfl, ?_⟩) ?_ ?_
      rotate_left
      · intro w'
        go_simp
        with_reducible rfl
      rotate_left
      · simp only [Act.put, List.setIfInBounds_toArray, List.set_cons_zero, List.set_cons_succ, i64_w, i32_w]
        rfl
      refine one_ (i := 7) (N := some 7) #[true, true, true, true, true, true, true, true, false] rfl rfl (by kernel_rfl) (by decide) (fun K hK => ?_)
      refine box_step (by rfl) (N := 7) rfl (cs := #[.int .i64 0, .slice none 0 0]) (t := 31) ?hr ?_
      case hr => first | (go_simp; done) | (go_simp; rfl)
      intro g6 hg w6 hbox hb
      have L6 : wz.heap.size ≤ g6 := by rw [hg]; exact HZ.out.size
      replace HZ := Aside0.mk (below_step HZ.out hb)
      replace HO := Aside0.mk (Kd.R_below HO.out hb)
      have B6 := Aside0.mk hbox
      clear hg hbox hb
      refine hK.out _ _ ⟨(blk_cell (blk_below BZ3.out HZ.out) 0).trans rfl, (blk_cell (blk_below BZ3.out HZ.out) 1).trans rfl⟩ (fun hHeld => ?_)
      clear hK K
      refine norm_ (a' := ?_) ?_ ?_
      rotate_left
      · show Act.put _ (some 7) _ = _
        simp only [Act.put, List.setIfInBounds_toArray, List.set_cons_zero, List.set_cons_succ, i64_w, i32_w]
        rfl
      exact norm_ (by simp only [putAll, Act.put, List.setIfInBounds_toArray, List.set_cons_zero, List.set_cons_succ]) (hCont (gO, cO, g6) _ ⟨hHeld, HO.out, B6.out, L6, HZ.out⟩)
    · skip
      refine box_step (by rfl) (N := 7) rfl (cs := #[.int .i64 0, .slice none 0 0]) (t := 31) ?hr ?_
      case hr => first | (go_simp; done) | (go_simp; rfl)
      intro g6 hg w6 hbox hb
      have L6 : wz.heap.size ≤ g6 := by rw [hg]; exact HZ.out.size
      replace HZ := Aside0.mk (below_step HZ.out hb)
      have B6 := Aside0.mk hbox
      clear hg hbox hb
      refine hK.out _ _ ⟨(blk_cell (blk_below BZ3.out HZ.out) 0).trans rfl, (blk_cell (blk_below BZ3.out HZ.out) 1).trans rfl⟩ (fun hHeld => ?_)
      clear hK K
      refine norm_ (a' := ?_) ?_ ?_
      rotate_left
      · show Act.put _ (some 7) _ = _
        simp only [Act.put, List.setIfInBounds_toArray, List.set_cons_zero, List.set_cons_succ, i64_w, i32_w]
        rfl
      refine one_ (i := 5) (N := some 14) #[true, true, true, true, true, true, false, true, false] rfl rfl (by kernel_rfl) (by decide) (fun K hK => ?_)
      refine goes_ Try.func51 (by kernel_rfl) rfl #[.slice (some adv) l1_1.length c1_1] (by rfl) rfl rfl (by (try simp only [List.map_toArray, List.map_cons, List.map_nil]); first | done | rfl) ?_
      with_reducible refine (spec_l1Own.calls _ _ l1_1 l1_1 _ (Kd.C_below SRC.out HZ.out) HC2.out OWN.out).mono ?_
      rintro e wo ⟨vo, rfl, ho, hb⟩
      refine ⟨_, rfl, ?_⟩
      replace B6 := Aside0.mk (blk_below B6.out hb)
      have so_ := HZ.out.size
      replace HZ := Aside0.mk (below_step HZ.out hb)
      obtain ⟨gO, cO, eO, _, _, _⟩ := Kd.R_form ho hv1
      subst eO
      have HO := Aside0.mk (Kd.R_lower ho so_)
      clear ho hb so_
      refine hK.out _ _ ⟨(blk_cell (blk_below BZ3.out HZ.out) 0).trans rfl, (blk_cell (blk_below BZ3.out HZ.out) 1).trans rfl⟩ (fun hHeld => ?_)
      clear hK K
      refine norm_ (a' := ?_) ?_ ?_
      rotate_left
      · show Act.put _ (some 14) _ = _
        simp only [Act.put, List.setIfInBounds_toArray, List.set_cons_zero, List.set_cons_succ, i64_w, i32_w]
        rfl
      refine pure_ (i := 6) (N := some 15) (v := ?_) (a' := ?_) #[true, true, true, true, true, true, true, true, false] rfl rfl (by kernel_rfl) (fun _ _ _ h => h) (Or.inl ⟨by rfl, ?_⟩) ?_ ?_
      rotate_left
      · intro w'
        go_simp
        with_reducible rfl
      rotate_left
      · simp only [Act.put, List.setIfInBounds_toArray, List.set_cons_zero, List.set_cons_succ, i64_w, i32_w]
        rfl
      exact norm_ (by simp only [putAll, Act.put, List.setIfInBounds_toArray, List.set_cons_zero, List.set_cons_succ]) (hCont (gO, cO, g6) _ ⟨hHeld, HO.out, B6.out, L6, HZ.out⟩)
  rintro ⟨gO, cO, g6⟩ wj ⟨hHeld, ho, hx, L6, hz⟩
  have HO := Aside0.mk ho
  have B6 := Aside0.mk hx
  replace HZ := Aside0.mk hz
  clear ho hx hz
  have N36 : g3 ≠ g6 := Nat.ne_of_lt (Nat.lt_of_lt_of_le (blk_lt BZ3.out) L6)
  have N46 : g4 ≠ g6 := Nat.ne_of_lt (Nat.lt_of_lt_of_le (blk_lt BZ4.out) L6)
  refine norm_ (a' := ?_) ?_ ?_
  rotate_left
  · simp only [putAll, Act.put, List.setIfInBounds_toArray, List.set_cons_zero, List.set_cons_succ]
    rfl
  refine one_ (i := 8) (N := none) #[true, true, true, true, true, true, true, true, true] rfl rfl (by kernel_rfl) (by decide) (fun K hK => ?_)
  have s60 := (blk_cell B6.out 0).trans rfl
  have s61 := (blk_cell B6.out 1).trans rfl
  have f60 := blk_frozen B6.out 0
  have f61 := blk_frozen B6.out 1
  refine skip_ (w1 := (wj.setCell ⟨g6, 0, none⟩ (.int .i64 (wrap64 (a1_0 + 1)))).setCell ⟨g6, 1, none⟩ (.slice (some ⟨gO, 0, none⟩) l1_1.length cO)) (by rfl) rfl ?_ ?_
  · first | (go_simp; done) | (go_simp; rfl)
  refine hK.out _ _ ⟨(cell_far (p := ⟨g6, _, none⟩) N36 _).trans ((cell_far (p := ⟨g6, _, none⟩) N36 _).trans hHeld.1), (cell_far (p := ⟨g6, _, none⟩) N36 _).trans ((cell_far (p := ⟨g6, _, none⟩) N36 _).trans hHeld.2)⟩ (fun hHeld => ?_)
  clear hK K
  refine done_ (by kernel_rfl) ?_
  have q6 := blk_put (cs := #[.int .i64 (wrap64 (a1_0 + 1)), .slice none 0 0]) (blk_put (cs := #[.int .i64 0, .slice none 0 0]) B6.out 0 (.int .i64 (wrap64 (a1_0 + 1))) rfl) 1 (.slice (some ⟨gO, 0, none⟩) l1_1.length cO) rfl
  have qO := Kd.R_set (Kd.R_set HO.out B6.out (by decide) 0 (.int .i64 (wrap64 (a1_0 + 1)))) (blk_put (cs := #[.int .i64 0, .slice none 0 0]) B6.out 0 (.int .i64 (wrap64 (a1_0 + 1))) rfl) (by decide) 1 (.slice (some ⟨gO, 0, none⟩) l1_1.length cO)
  have qz : Below wz.heap.size wz ((wj.setCell ⟨g6, 0, none⟩ (.int .i64 (wrap64 (a1_0 + 1)))).setCell ⟨g6, 1, none⟩ (.slice (some ⟨gO, 0, none⟩) l1_1.length cO)) := below_set (below_set HZ.out L6) L6
  clear hHeld HO B6 HZ s60 s61 f60 f61
  generalize (wj.setCell ⟨g6, 0, none⟩ (.int .i64 (wrap64 (a1_0 + 1)))).setCell ⟨g6, 1, none⟩ (.slice (some ⟨gO, 0, none⟩) l1_1.length cO) = wn at q6 qO qz ⊢
  rw [HW1.out] at q6
  rw [HW1.out]
  have z0 : wn.cell? ⟨g3, 0, none⟩ = some (.int .i64 a1_0) := (blk_cell (blk_below BZ3.out qz) 0).trans rfl
  have z1 : wn.cell? ⟨g3, 1, none⟩ = some (.slice (some adv) l1_1.length c1_1) := (blk_cell (blk_below BZ3.out qz) 1).trans rfl
  have HBn := Aside0.mk (below_step (below_step HB.out HZB.out) qz)
  go_wp2_with fail
  refine (spec_ctHalted.calls _ _ l0 a1_0 _ _ l1_1 false _ (Kd.C_below H1.out HBn.out) HC1.out (Kd.C_below H2.out HBn.out) HC2.out HHt.out).mono ?_
  rintro e ws ⟨rfl, hb⟩
  have hzs := below_step qz hb
  have B3 := Aside0.mk (blk_below BZ3.out hzs)
  have B4 := Aside0.mk (blk_below BZ4.out hzs)
  have B6 := Aside0.mk (blk_below q6 hb)
  have lz := Nat.le_trans HB.out.size HZB.out.size
  have HO := Aside0.mk (Kd.R_lower (Kd.R_below qO hb) lz)
  have LO := Aside0.mk (Nat.le_trans lz (Kd.R_base qO gO rfl))
  replace HB := Aside0.mk (below_step HBn.out hb)
  have L6w : Aside0 (w.heap.size ≤ g6) := ⟨Nat.le_trans lz L6⟩
  replace x0 := (HB.out.cell (World.block_lt_of_cell? w _ x0)).trans x0
  replace x1 := (HB.out.cell (World.block_lt_of_cell? w _ x1)).trans x1
  replace x2 := (HB.out.cell (World.block_lt_of_cell? w _ x2)).trans x2
  replace hv := (HB.out.cell (World.block_lt_of_cell? w _ hv)).trans hv
  have y30 : ws.cell? ⟨g3, 0, none⟩ = some (.int .i64 a1_0) := (blk_cell B3.out 0).trans rfl
  have y31 : ws.cell? ⟨g3, 1, none⟩ = some (.slice (some adv) l1_1.length c1_1) := (blk_cell B3.out 1).trans rfl
  have y40 : ws.cell? ⟨g4, 0, none⟩ = some (.int .i64 0) := (blk_cell B4.out 0).trans rfl
  have y41 : ws.cell? ⟨g4, 1, none⟩ = some (.slice none 0 0) := (blk_cell B4.out 1).trans rfl
  have y60 : ws.cell? ⟨g6, 0, none⟩ = some (.int .i64 (a1_0 + 1)) := (blk_cell B6.out 0).trans rfl
  have y61 : ws.cell? ⟨g6, 1, none⟩ = some (.slice (some ⟨gO, 0, none⟩) l1_1.length cO) := (blk_cell B6.out 1).trans rfl
  have f40 := blk_frozen B4.out 0
  have f41 := blk_frozen B4.out 1
  have f60 := blk_frozen B6.out 0
  have f61 := blk_frozen B6.out 1
  have gl3 := blk_lt B3.out
  have gl4 := blk_lt B4.out
  have gl6 := blk_lt B6.out
  obtain ⟨yO_, fO⟩ := Kd.R_celln 0 HO.out ci hc0' hc1'
  have yO : ws.cell? ⟨gO, ci.toNat, none⟩ = some (.int .i64 va) := by rw [HVA.out]; exact yO_
  have glO := Kd.R_lt HO.out gO rfl
  have hvl := World.block_lt_of_cell? ws _ hv
  have N6O : g6 ≠ gO := fun e_ => Kd.R_ne HO.out B6.out (by decide) (by rw [e_]; rfl)
  have N4O : g4 ≠ gO := fun e_ => Kd.R_ne HO.out B4.out (by decide) (by rw [e_]; rfl)
  have N64 := N46.symm
  have NO6 := N6O.symm
  have NO4 := N4O.symm
  clear hb hzs q6 qO qz z0 z1 yO_ BZ3 BZ4 HZB HBn SRC lz L6 OWN HHt HW1 B3
  rcases hkk with rfl | rfl | rfl
  · by_cases hM : va = 10000
    · subst hM
      have hs := HSS.out
      rw [if_pos rfl, if_pos rfl] at hs
      simp only [Prod.mk.injEq] at hs
      obtain ⟨rfl, rfl, rfl⟩ := hs
      have hh := H.out
      rw [show decide ((0 : Int) = 1 ∧ (10000 : Int) = 0) = false by simp] at hh
      simp only [if_false, Prod.mk.injEq, Bool.false_eq_true] at hh
      obtain ⟨rfl, rfl, rfl, rfl⟩ := hh
      clear H HSS
      go_wp2
      refine bodyPost_ret (results_ctt rfl _ _ g4 31 #[.int .i64 0, .slice none 0 0] (0, 0) _ rfl (blk_alloc (blk_put (cs := #[.int .i64 0, .slice none 0 0]) (blk_put (cs := #[.int .i64 0, .slice none 0 0]) B4.out 0 _ rfl) 1 _ rfl) _) Try.underlying31 rfl (by kernel_rfl)) rfl ?_
      exact ⟨_, rfl, Kd.R_nil _ _ _ _ _, below_alloc (below_set (below_set HB.out L4.out) L4.out) _⟩
    · have d1 : (va == 10000) = false := by simpa using hM
      have hs := HSS.out
      rw [if_pos rfl, if_neg hM] at hs
      simp only [Prod.mk.injEq] at hs
      obtain ⟨rfl, rfl, rfl⟩ := hs
      have hh := H.out
      rw [show decide ((0 : Int) = 1 ∧ va = 0) = false by simp] at hh
      simp only [if_true, Prod.mk.injEq, Bool.false_eq_true] at hh
      obtain ⟨rfl, rfl, rfl, rfl⟩ := hh
      clear H HSS
      go_wp2
      refine bodyPost_ret (results_ctt rfl _ _ g4 31 #[.int .i64 (a1_0 + 1), .slice (some ⟨gO, 0, none⟩) l1_1.length cO] (0, 0) _ rfl (blk_alloc (blk_put (cs := #[.int .i64 (a1_0 + 1), .slice none 0 0]) (blk_put (cs := #[.int .i64 0, .slice none 0 0]) (blk_far (p := ⟨gO, ci.toNat, none⟩) B4.out N4O (.int .i64 (va + 1))) 0 _ rfl) 1 _ rfl) _) Try.underlying31 rfl (by kernel_rfl)) rfl ?_
      exact ⟨_, rfl, Kd.R_alloc (Kd.R_set (Kd.R_set (Kd.R_putn HO.out ci (va + 1)) (blk_far (p := ⟨gO, ci.toNat, none⟩) B4.out N4O (.int .i64 (va + 1))) (by decide) 0 _) (blk_put (cs := #[.int .i64 0, .slice none 0 0]) (blk_far (p := ⟨gO, ci.toNat, none⟩) B4.out N4O (.int .i64 (va + 1))) 0 _ rfl) (by decide) 1 _) _, below_alloc (below_set (below_set (below_set HB.out LO.out) L4.out) L4.out) _⟩
  · by_cases hM : va = 0
    · subst hM
      have hs := HSS.out
      rw [if_neg (by decide), if_pos rfl, if_pos rfl] at hs
      simp only [Prod.mk.injEq] at hs
      obtain ⟨rfl, rfl, rfl⟩ := hs
      have hh := H.out
      rw [show decide ((1 : Int) = 1 ∧ (0 : Int) = 0) = true by simp] at hh
      simp only [if_true, Prod.mk.injEq, Bool.false_eq_true] at hh
      obtain ⟨rfl, rfl, rfl, rfl⟩ := hh
      clear H HSS
      go_wp2
      refine bodyPost_ret (results_ctt rfl _ _ g4 31 #[.int .i64 s1, .slice (some ⟨gO, 0, none⟩) s2.length cO] (0, 0) _ rfl (blk_alloc (blk_put (cs := #[.int .i64 s1, .slice none 0 0]) (blk_put (cs := #[.int .i64 0, .slice none 0 0]) (blk_far (p := ⟨g6, 0, none⟩) B4.out N46 (.int .i64 s1)) 0 _ rfl) 1 _ rfl) _) Try.underlying31 rfl (by kernel_rfl)) rfl ?_
      exact ⟨_, rfl, Kd.R_alloc (Kd.R_set (Kd.R_set (Kd.R_set HO.out B6.out (by decide) 0 _) (blk_far (p := ⟨g6, 0, none⟩) B4.out N46 (.int .i64 s1)) (by decide) 0 _) (blk_put (cs := #[.int .i64 0, .slice none 0 0]) (blk_far (p := ⟨g6, 0, none⟩) B4.out N46 (.int .i64 s1)) 0 _ rfl) (by decide) 1 _) _, below_alloc (below_set (below_set (below_set HB.out L6w.out) L4.out) L4.out) _⟩
    · have d1 : (va == 0) = false := by simpa using hM
      have hs := HSS.out
      rw [if_neg (by decide), if_pos rfl, if_neg hM] at hs
      simp only [Prod.mk.injEq] at hs
      obtain ⟨rfl, rfl, rfl⟩ := hs
      have hh := H.out
      rw [show decide ((1 : Int) = 1 ∧ va = 0) = false by simp [hM]] at hh
      simp only [if_true, Prod.mk.injEq, Bool.false_eq_true] at hh
      obtain ⟨rfl, rfl, rfl, rfl⟩ := hh
      clear H HSS
      go_wp2
      refine bodyPost_ret (results_ctt rfl _ _ g4 31 #[.int .i64 (a1_0 + 1), .slice (some ⟨gO, 0, none⟩) l1_1.length cO] (0, 0) _ rfl (blk_alloc (blk_put (cs := #[.int .i64 (a1_0 + 1), .slice none 0 0]) (blk_put (cs := #[.int .i64 0, .slice none 0 0]) (blk_far (p := ⟨gO, ci.toNat, none⟩) B4.out N4O (.int .i64 (va - 1))) 0 _ rfl) 1 _ rfl) _) Try.underlying31 rfl (by kernel_rfl)) rfl ?_
      exact ⟨_, rfl, Kd.R_alloc (Kd.R_set (Kd.R_set (Kd.R_putn HO.out ci (va - 1)) (blk_far (p := ⟨gO, ci.toNat, none⟩) B4.out N4O (.int .i64 (va - 1))) (by decide) 0 _) (blk_put (cs := #[.int .i64 0, .slice none 0 0]) (blk_far (p := ⟨gO, ci.toNat, none⟩) B4.out N4O (.int .i64 (va - 1))) 0 _ rfl) (by decide) 1 _) _, below_alloc (below_set (below_set (below_set HB.out LO.out) L4.out) L4.out) _⟩
  · skip
    have hs := HSS.out
    rw [if_neg (by decide), if_neg (by decide)] at hs
    simp only [Prod.mk.injEq] at hs
    obtain ⟨rfl, rfl, rfl⟩ := hs
    have hh := H.out
    rw [show decide ((2 : Int) = 1 ∧ va = 0) = false by simp] at hh
    simp only [if_true, Prod.mk.injEq, Bool.false_eq_true] at hh
    obtain ⟨rfl, rfl, rfl, rfl⟩ := hh
    clear H HSS
    go_wp2
    refine bodyPost_ret (results_ctt rfl _ _ g4 31 #[.int .i64 s1, .slice (some ⟨gO, 0, none⟩) s2.length cO] (0, 0) _ rfl (blk_alloc (blk_put (cs := #[.int .i64 s1, .slice none 0 0]) (blk_put (cs := #[.int .i64 0, .slice none 0 0]) (blk_far (p := ⟨g6, 0, none⟩) B4.out N46 (.int .i64 s1)) 0 _ rfl) 1 _ rfl) _) Try.underlying31 rfl (by kernel_rfl)) rfl ?_
    exact ⟨_, rfl, Kd.R_alloc (Kd.R_set (Kd.R_set (Kd.R_set HO.out B6.out (by decide) 0 _) (blk_far (p := ⟨g6, 0, none⟩) B4.out N46 (.int .i64 s1)) (by decide) 0 _) (blk_put (cs := #[.int .i64 0, .slice none 0 0]) (blk_far (p := ⟨g6, 0, none⟩) B4.out N46 (.int .i64 s1)) 0 _ rfl) (by decide) 1 _) _, below_alloc (below_set (below_set (below_set HB.out L6w.out) L4.out) L4.out) _⟩
end Go.Proofs.Ytbcphkblieeemaa.P
