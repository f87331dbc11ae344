/- The walk of spec.ttSwapped (printed by gen_sw.py). -/
import Derived.Test.YtnccomklpfbcpaaZFnExactSymmetricValues0
import Derived.Test.YtnccomklpfbcpaaYFnExactSymmetricValuesVCell
import Derived.Test.YtnccomklpfbcpaaYFnExactSymmetricValuesABase
namespace Go.Proofs.Ytnccomklpfbcpaa.P
open Go.RowKit Go.Proofs.YtnccomklpfbcpaaW.PrintWords Go.Proofs.YtnccomklpfbcpaaW.PrintLast Go.Proofs.YtnccomklpfbcpaaW.PrintMore Go.Proofs.Ytnccomklpfbcpaa.Own Go.Proofs.Ytnccomklpfbcpaa.A
set_option linter.unusedVariables false
set_option linter.unusedSimpArgs false
def swOk (n : Nat) (a1 a2 : Int) (x : Nat) : Bool := match spec_ttSwap.f (x : Int) a1 a2 with
  | some t => decide (0 ≤ t) && decide (t < (n : Int))
  | none => false
theorem swOk_some {n : Nat} {a1 a2 : Int} {x : Nat} (h : swOk n a1 a2 x = true) : ∃ t, spec_ttSwap.f (x : Int) a1 a2 = some t ∧ 0 ≤ t ∧ t < (n : Int) := by
  unfold swOk at h
  cases hh : spec_ttSwap.f (x : Int) a1 a2 with
  | none => rw [hh] at h; simp at h
  | some t => rw [hh] at h; simp at h; exact ⟨t, rfl, h.1, h.2⟩
def swTo (l : List Int) (a1 a2 : Int) (x : Nat) : Int := rd l ((spec_ttSwap.f (x : Int) a1 a2).getD 0)
def SwFit (l : List Int) (a1 a2 : Int) : Prop := (1 ≤ l.length ∧ l.length ≤ 16) ∧ ∀ x ∈ List.range l.length, swOk l.length a1 a2 x = true
instance (l : List Int) (a1 a2 : Int) : Decidable (SwFit l a1 a2) := by unfold SwFit; infer_instance
/-- The three boxes and what is made so far. -/
structure TsS (w0 W : World) (a0 : Int) (sl va : Value) (acc : List Int) : Prop where
  bA : W.heap[w0.heap.size]? = some (.cells #[.int .i64 a0, sl] 28 (0, 0))
  bR : W.heap[w0.heap.size + 1]? = some (.cells #[.int .i64 0, .slice none 0 0] 28 (0, 0))
  bT : W.heap[w0.heap.size + 2]? = some (.cells #[.int .i64 a0, va] 28 (0, 0))
  ro : Kd.R (Kd.int .i64) 3 W w0.heap.size (fun _ => True) va acc
  be : Below w0.heap.size w0 W
theorem TsS.below {w0 W W1 : World} {a0 : Int} {sl va : Value} {acc : List Int} (h : TsS w0 W a0 sl va acc) (hb : Below W.heap.size W W1) : TsS w0 W1 a0 sl va acc :=
  ⟨blk_below h.bA hb, blk_below h.bR hb, blk_below h.bT hb, Kd.R_below h.ro hb, below_step h.be hb⟩
theorem TsS.app {w0 W W1 : World} {a0 : Int} {sl va vn : Value} {acc acc1 : List Int} (h : TsS w0 W a0 sl va acc) (ho : Kd.R (Kd.int .i64) 3 W1 w0.heap.size (fun _ => True) vn acc1) (hb : Below w0.heap.size w0 W1) (hg : W.grownBy W1 va.ownBlock) :
    W1.heap[w0.heap.size + 2]? = some (.cells #[.int .i64 a0, va] 28 (0, 0)) ∧ TsS w0 (W1.setCell ⟨w0.heap.size + 2, 1, none⟩ vn) a0 sl vn acc1 := by
  have b1 := blk_grown h.bA hg (Kd.R_ne h.ro h.bA (by decide))
  have b2 := blk_grown h.bR hg (Kd.R_ne h.ro h.bR (by decide))
  have b3 := blk_grown h.bT hg (Kd.R_ne h.ro h.bT (by decide))
  exact ⟨b3, blk_far b1 (p := ⟨w0.heap.size + 2, 1, none⟩) (by simp) vn, blk_far b2 (p := ⟨w0.heap.size + 2, 1, none⟩) (by simp) vn, blk_put (cs := #[.int .i64 a0, va]) b3 1 vn rfl, rowFar ho rfl (Kd.R_ne ho b3 (by decide)), below_set hb (by omega)⟩
/-! ### spec_ttSwapped: function 58 -/
def spec_ttSwapped.f (k : Nat) (a0_0 : Int) (l0_1 : List Int) (a1 : Int) (a2 : Int) : Option (Int × List Int) := if SwFit l0_1 a1 a2 then some (a0_0, (List.range l0_1.length).map (swTo l0_1 a1 a2)) else none
theorem spec_ttSwapped.mono : ∀ a0 a1 a2 a3 k, LeO (spec_ttSwapped.f k a0 a1 a2 a3) (spec_ttSwapped.f (k + 1) a0 a1 a2 a3) := fun _ _ _ _ _ _ h => h
set_option maxHeartbeats 8000000 in
set_option maxRecDepth 100000 in
theorem spec_ttSwapped.calls (k : Nat) (a0_0 : Int) (A0_1 : Option Addr) (c0_1 : Nat) (l0_1 : List Int) (a1 : Int) (a2 : Int) (r1 : Int) (r2 : List Int) (w : World) (hr0_1 : Kd.C (Kd.int .i64) w A0_1 l0_1.length l0_1) (hc0_1 : l0_1.length ≤ c0_1) (h : spec_ttSwapped.f k a0_0 l0_1 a1 a2 = some (r1, r2)) :
    Calls Try.prog 58 #[.agg #[.int .i64 a0_0, .slice A0_1 l0_1.length c0_1], .int .i64 a1, .int .i64 a2] w fun e w' => ∃ v1_ : Value, e = .returned (.agg #[.int .i64 r1, v1_]) ∧ Kd.R (Kd.int .i64) 3 w' w.heap.size (fun _ => True) v1_ r2 ∧ Below w.heap.size w w' := by
  have hu28 := Try.underlying28
  unfold spec_ttSwapped.f at h
  by_cases hk : SwFit l0_1 a1 a2
  case neg => rw [if_neg hk] at h; simp at h
  rw [if_pos hk] at h
  simp only [Option.some.injEq, Prod.mk.injEq] at h
  obtain ⟨rfl, rfl⟩ := h
  obtain ⟨⟨hn1, hn16⟩, hfit⟩ := hk
  obtain ⟨ad, e_, _⟩ := Kd.at_int hr0_1 0 (by omega) (by omega)
  subst e_
  have HC := Aside0.mk hr0_1
  have HF : Aside0 (∀ x < l0_1.length, swOk l0_1.length a1 a2 x = true) := ⟨fun x hx => hfit x (List.mem_range.2 hx)⟩
  have h1 : (w.alloc (.cells #[.int .i64 a0_0, .slice (some ad) l0_1.length c0_1] 28)).heap.size = w.heap.size + 1 := Array.size_push _
  have h2 : ((w.alloc (.cells #[.int .i64 a0_0, .slice (some ad) l0_1.length c0_1] 28)).alloc (.cells #[.int .i64 0, .slice none 0 0] 28)).heap.size = w.heap.size + 2 := (Array.size_push _).trans (by rw [h1])
  have HS0 : Aside0 (TsS w (((w.alloc (.cells #[.int .i64 a0_0, .slice (some ad) l0_1.length c0_1] 28)).alloc (.cells #[.int .i64 0, .slice none 0 0] 28)).alloc (.cells #[.int .i64 a0_0, .slice none 0 0] 28)) a0_0 (.slice (some ad) l0_1.length c0_1) (.slice none 0 0) []) := by
    have q2 := blk_new (w.alloc (.cells #[.int .i64 a0_0, .slice (some ad) l0_1.length c0_1] 28)) (.cells #[.int .i64 0, .slice none 0 0] 28)
    have q3 := blk_new ((w.alloc (.cells #[.int .i64 a0_0, .slice (some ad) l0_1.length c0_1] 28)).alloc (.cells #[.int .i64 0, .slice none 0 0] 28)) (.cells #[.int .i64 a0_0, .slice none 0 0] 28)
    rw [h1] at q2
    rw [h2] at q3
    exact ⟨⟨blk_alloc (blk_alloc (blk_new w _) _) _, blk_alloc q2 _, q3, Kd.R_nil _ _ _ _ _, below_alloc (below_alloc (below_alloc (Below.refl _ _) _) _) _⟩⟩
  clear hr0_1 hfit
  go_enter Try.func58, Try.ntmps58
  go_wp2
  generalize (((w.alloc (.cells #[.int .i64 a0_0, .slice (some ad) l0_1.length c0_1] 28)).alloc (.cells #[.int .i64 0, .slice none 0 0] 28)).alloc (.cells #[.int .i64 a0_0, .slice none 0 0] 28)) = wn at HS0 ⊢
  clear h1 h2
  go_loopw [15] (fun v15 wr => ∃ (i : Nat) (va : Value), v15 = .int .i64 i ∧ i ≤ l0_1.length ∧ Aside0 (TsS w wr a0_0 (.slice (some ad) l0_1.length c0_1) va ((List.range i).map (swTo l0_1 a1 a2)))) (fun i _ => l0_1.length - (intOf i).toNat)
  case atStart => exact ⟨0, .slice none 0 0, rfl, Nat.zero_le _, HS0⟩
  case round =>
    clear HS0
    obtain ⟨i, va, rfl, hi, HS⟩ := hrel
    have z1 : wr.cell? ⟨w.heap.size, 1, none⟩ = some (.slice (some ad) l0_1.length c0_1) := (blk_cell HS.out.bA 1).trans rfl
    obtain ⟨Ao, co, eo⟩ := Kd.R_slice HS.out.ro
    subst eo
    have hal : ((List.range i).map (swTo l0_1 a1 a2)).length ≤ 16 := by rw [List.length_map, List.length_range]; omega
    obtain ⟨acc, hacc⟩ : ∃ a_, a_ = (List.range i).map (swTo l0_1 a1 a2) := ⟨_, rfl⟩
    rw [← hacc] at HS hal
    have HA := Aside0.mk hacc
    clear hacc
    by_cases hlt : i < l0_1.length
    · obtain ⟨t, ht, ht0, ht1⟩ := swOk_some (HF.out i hlt)
      have HT := Aside0.mk ht
      have hto : swTo l0_1 a1 a2 i = rd l0_1 t := by unfold swTo; rw [ht]; rfl
      have HTO := Aside0.mk hto
      clear ht hto
      obtain ⟨ad2, e2, hx⟩ := Kd.at_int HC.out t ht0 ht1
      cases e2
      have HX := Aside0.mk hx
      replace hx := (HS.out.be.cell (World.block_lt_of_cell? w _ hx)).trans hx
      have y1 : wr.cell? ⟨w.heap.size + 2, 1, none⟩ = some (.slice Ao acc.length co) := (blk_cell HS.out.bT 1).trans rfl
      have d0 : decide (0 ≤ t) = true := decide_eq_true ht0
      have d1 : decide (t < (l0_1.length : Int)) = true := decide_eq_true ht1
      go_wp2
      refine start_ (n := 14) (S := fun w' => w'.cell? ⟨w.heap.size + 2, 1, none⟩ = some (.slice Ao acc.length co) ∧ w'.cell? ⟨w.heap.size, 1, none⟩ = some (.slice (some ad) l0_1.length c0_1) ∧ w'.cell? (ad.add t.toNat) = some (.int .i64 (rd l0_1 t))) (ds := [13]) #[false, false, false, false, false, false, false, false, false, false, false, false, false, false] (by kernel_rfl) rfl rfl ⟨y1, z1, hx⟩ (fun hHeld => ?_)
      refine Own.anew_ (wN := wr) (by repeat (first | with_reducible exact Below.refl _ _ | with_reducible apply below_alloc | with_reducible apply pw_below_drewN | with_reducible apply below_drew1)) hHeld (fun wy hzb hHeld => ?_)
      replace HS := Aside0.mk (HS.out.below hzb)
      clear hzb y1 z1 hx
      refine pure_ (i := 0) (N := some 18) (v := ?_) (a' := ?_) #[true, false, false, false, false, false, false, false, false, false, false, false, false, false] rfl rfl (by kernel_rfl) (fun _ _ _ h => h) (Or.inl ⟨by rfl, ?_⟩) ?_ ?_
      rotate_left
      · intro w'
        go_simp
        with_reducible rfl
      rotate_left
      · simp only [Act.put, List.setIfInBounds_toArray, List.set_cons_zero, List.set_cons_succ, i64_w, i32_w]
        rfl
      refine pure_ (i := 2) (N := some 20) (v := ?_) (a' := ?_) #[true, false, true, false, false, false, false, false, false, false, false, false, false, false] rfl rfl (by kernel_rfl) (fun _ _ _ h => h) (Or.inl ⟨by rfl, ?_⟩) ?_ ?_
      rotate_left
      · intro w'
        go_simp
        with_reducible rfl
      rotate_left
      · simp only [Act.put, List.setIfInBounds_toArray, List.set_cons_zero, List.set_cons_succ, i64_w, i32_w]
        rfl
      refine pure_ (i := 4) (N := some 22) (v := ?_) (a' := ?_) #[true, false, true, false, true, false, false, false, false, false, false, false, false, false] rfl rfl (by kernel_rfl) (fun _ _ _ h => h) (Or.inl ⟨by rfl, ?_⟩) ?_ ?_
      rotate_left
      · intro w'
        go_simp
        with_reducible rfl
      rotate_left
      · simp only [Act.put, List.setIfInBounds_toArray, List.set_cons_zero, List.set_cons_succ, i64_w, i32_w]
        rfl
      refine pure_ (i := 5) (N := some 23) (v := ?_) (a' := ?_) #[true, false, true, false, true, true, false, false, false, false, false, false, false, false] rfl rfl (by kernel_rfl) (fun _ _ _ h => h) (Or.inl ⟨by rfl, ?_⟩) ?_ ?_
      rotate_left
      · intro w'
        go_simp
        with_reducible rfl
      rotate_left
      · simp only [Act.put, List.setIfInBounds_toArray, List.set_cons_zero, List.set_cons_succ, i64_w, i32_w]
        rfl
      refine pure_ (i := 6) (N := some 24) (v := ?_) (a' := ?_) #[true, false, true, false, true, true, true, false, false, false, false, false, false, false] rfl rfl (by kernel_rfl) (fun _ _ _ h => h) (Or.inl ⟨by rfl, ?_⟩) ?_ ?_
      rotate_left
      · intro w'
        go_simp
        with_reducible rfl
      rotate_left
      · simp only [Act.put, List.setIfInBounds_toArray, List.set_cons_zero, List.set_cons_succ, i64_w, i32_w]
        rfl
      refine take_ (i := 1) (N := some 19) (v := ?_) (a' := ?_) #[true, true, true, false, true, true, true, false, false, false, false, false, false, false] rfl rfl (by kernel_rfl) (fun _ _ _ h => h) (Or.inl ⟨by rfl, ?_⟩) hHeld ?_ ?_
      rotate_left
      · rintro w' ⟨s0, s1, s2⟩
        go_simp
        with_reducible rfl
      rotate_left
      · simp only [Act.put, List.setIfInBounds_toArray, List.set_cons_zero, List.set_cons_succ, i64_w, i32_w]
        rfl
      refine take_ (i := 3) (N := some 21) (v := ?_) (a' := ?_) #[true, true, true, true, true, true, true, false, false, false, false, false, false, false] rfl rfl (by kernel_rfl) (fun _ _ _ h => h) (Or.inl ⟨by rfl, ?_⟩) hHeld ?_ ?_
      rotate_left
      · rintro w' ⟨s0, s1, s2⟩
        go_simp
        with_reducible rfl
      rotate_left
      · simp only [Act.put, List.setIfInBounds_toArray, List.set_cons_zero, List.set_cons_succ, i64_w, i32_w]
        rfl
      refine one_ (i := 7) (N := some 25) #[true, true, true, true, true, true, true, true, false, false, false, false, false, false] rfl rfl (by kernel_rfl) (by decide) (fun K hK => ?_)
      refine goes_ Try.func68 (by kernel_rfl) rfl #[.int .i64 (i : Int), .int .i64 a1, .int .i64 a2] (by rfl) rfl rfl (by (try simp only [List.map_toArray, List.map_cons, List.map_nil]); first | done | rfl) ?_
      with_reducible refine (spec_ttSwap.calls (i : Int) a1 a2 t _ HT.out).mono ?_
      rintro e w' ⟨rfl, ⟨nd, rfl⟩⟩
      refine ⟨_, rfl, ?_⟩
      refine hK.out _ _ ⟨(blk_cell HS.out.bT 1).trans rfl, (blk_cell HS.out.bA 1).trans rfl, (HS.out.be.cell (World.block_lt_of_cell? w _ HX.out)).trans HX.out⟩ (fun hHeld => ?_)
      clear hK K
      refine norm_ (a' := ?_) ?_ ?_
      rotate_left
      · show Act.put _ (some 25) _ = _
        simp only [Act.put, List.setIfInBounds_toArray, List.set_cons_zero, List.set_cons_succ, i64_w, i32_w]
        rfl
      refine pure_ (i := 8) (N := some 26) (v := ?_) (a' := ?_) #[true, true, true, true, true, true, true, true, true, false, false, false, false, false] rfl rfl (by kernel_rfl) (fun _ _ _ h => h) (Or.inl ⟨by rfl, ?_⟩) ?_ ?_
      rotate_left
      · intro w'
        go_simp
        with_reducible rfl
      rotate_left
      · simp only [Act.put, List.setIfInBounds_toArray, List.set_cons_zero, List.set_cons_succ, i64_w, i32_w]
        rfl
      refine take_ (i := 9) (N := some 27) (v := ?_) (a' := ?_) #[true, true, true, true, true, true, true, true, true, true, false, false, false, false] rfl rfl (by kernel_rfl) (fun _ _ _ h => h) (Or.inl ⟨by rfl, ?_⟩) hHeld ?_ ?_
      rotate_left
      · rintro w' ⟨s0, s1, s2⟩
        go_simp
        with_reducible rfl
      rotate_left
      · simp only [Act.put, List.setIfInBounds_toArray, List.set_cons_zero, List.set_cons_succ, i64_w, i32_w]
        rfl
      refine one_ (i := 10) (N := some 28) #[true, true, true, true, true, true, true, true, true, true, true, false, false, false] rfl rfl (by kernel_rfl) (by decide) (fun K hK => ?_)
      refine value_ (w1 := ?_) (v := ?_) (by rfl) rfl ?_ ?_
      rotate_left 2
      · go_simp
        constructor
        · rfl
        · rfl
      refine hK.out _ _ ⟨(blk_cell (blk_alloc HS.out.bT _) 1).trans rfl, (blk_cell (blk_alloc HS.out.bA _) 1).trans rfl, (World.cell?_alloc_lt _ _ _ (World.block_lt_of_cell? _ _ ((HS.out.be.cell (World.block_lt_of_cell? w _ HX.out)).trans HX.out))).trans ((HS.out.be.cell (World.block_lt_of_cell? w _ HX.out)).trans HX.out)⟩ (fun hHeld => ?_)
      clear hK K
      refine norm_ (a' := ?_) ?_ ?_
      rotate_left
      · show Act.put _ (some 28) _ = _
        simp only [Act.put, List.setIfInBounds_toArray, List.set_cons_zero, List.set_cons_succ, i64_w, i32_w]
        rfl
      refine one_ (i := 11) (N := some 29) #[true, true, true, true, true, true, true, true, true, true, true, true, false, false] rfl rfl (by kernel_rfl) (by decide) (fun K hK => ?_)
      refine Kd.R_append_step (Kd.int .i64) (w0 := w) w.heap.size (by rfl) (.tmp 19) (.tmp 28) 22 3 (.int .i64 0) 8 rfl Try.underlying22 info3 rfl (by decide) (by omega) (.slice Ao acc.length co) acc (rd l0_1 t) [.int .i64 (rd l0_1 t)] (fun _ => True) (fun _ => False) rfl rfl ?aP (fun _ hk => hk.elim) ?aF ?aO ?aB ?aS ?aL ?_
      (case aP => exact rfl)
      (case aB => exact (by repeat (first | (with_reducible first | exact HS.out.be | apply below_alloc | apply pw_below_drewN | apply below_drew1) | exact HS.out.be)))
      (case aF => exact (fun _ _ => trivial))
      (case aO => exact (by (with_reducible repeat (first | apply Kd.R_alloc | apply Kd.R_drewN | apply Kd.R_drew)); exact HS.out.ro))
      (case aS => exact (below_size (by repeat (first | (with_reducible first | exact HS.out.be | apply below_alloc | apply pw_below_drewN | apply below_drew1) | exact HS.out.be))))
      (case aL => omega)
      intro v9 w9 ho hb hg hat
      obtain ⟨An, cn, en⟩ := Kd.R_slice ho
      subst en
      obtain ⟨q9, hs9⟩ := (TsS.app (W1 := w9) (HS.out.below (by repeat (first | with_reducible exact Below.refl _ _ | with_reducible apply below_alloc | with_reducible apply pw_below_drewN | with_reducible apply below_drew1))) ho hb hg)
      have HS9 := Aside0.mk hs9
      have Q9 := Aside0.mk q9
      have R9 := Aside0.mk ho
      have B9 := Aside0.mk hb
      have A9 := Aside0.mk (blk_grown (o := .cells #[.int .i64 a0_0, .slice (some ad) l0_1.length c0_1] 28 (0, 0)) (blk_below HS.out.bA (by repeat (first | with_reducible exact Below.refl _ _ | with_reducible apply below_alloc | with_reducible apply pw_below_drewN | with_reducible apply below_drew1))) hg (Kd.R_ne HS.out.ro HS.out.bA (by decide)))
      clear hs9 q9 ho hb hg hat HS
      refine hK.out _ _ ⟨(blk_cell Q9.out 1).trans rfl, (blk_cell A9.out 1).trans rfl, (B9.out.cell (World.block_lt_of_cell? w _ HX.out)).trans HX.out⟩ (fun hHeld => ?_)
      clear hK K
      refine norm_ (a' := ?_) ?_ ?_
      rotate_left
      · show Act.put _ (some 29) _ = _
        simp only [Act.put, List.setIfInBounds_toArray, List.set_cons_zero, List.set_cons_succ, i64_w, i32_w]
        rfl
      refine pure_ (i := 12) (N := some 30) (v := ?_) (a' := ?_) #[true, true, true, true, true, true, true, true, true, true, true, true, true, false] rfl rfl (by kernel_rfl) (fun _ _ _ h => h) (Or.inl ⟨by rfl, ?_⟩) ?_ ?_
      rotate_left
      · intro w'
        go_simp
        with_reducible rfl
      rotate_left
      · simp only [Act.put, List.setIfInBounds_toArray, List.set_cons_zero, List.set_cons_succ, i64_w, i32_w]
        rfl
      have u1 := (blk_cell Q9.out 1).trans rfl
      have f1 := blk_frozen Q9.out 1
      refine last_ (i := 13) (N := none) #[true, true, true, true, true, true, true, true, true, true, true, true, true, true] rfl rfl (by kernel_rfl) (by decide) (fun K hK => ?_)
      refine skip_ (w1 := w9.setCell ⟨w.heap.size + 2, 1, none⟩ (.slice An (acc ++ [rd l0_1 t]).length cn)) (by rfl) rfl ?_ ?_
      · first | (go_simp; done) | (go_simp; rfl)
      refine hK.out _ _ ?_
      clear hK K
      refine done_ (by kernel_rfl) ?_
      clear hHeld u1 f1 Q9 R9 B9 A9 HX d0 d1 ht0 ht1 HT
      generalize w9.setCell ⟨w.heap.size + 2, 1, none⟩ (.slice An (acc ++ [rd l0_1 t]).length cn) = wx at HS9 ⊢
      have HS8 : Aside0 (TsS w wx a0_0 (.slice (some ad) l0_1.length c0_1) (.slice An (acc ++ [rd l0_1 t]).length cn) ((List.range (i + 1)).map (swTo l0_1 a1 a2))) := ⟨by rw [List.range_succ, List.map_append, ← HA.out, List.map_cons, List.map_nil, HTO.out]; exact HS9.out⟩
      clear HS9 HA HTO
      go_wp2
      go_roundw
      case rel => first | exact ⟨i + 1, _, by go_num, by omega, HS8⟩ | ((repeat apply Exists.intro); exact ⟨⟨i + 1, _, by go_num, by omega, HS8⟩, rfl⟩)
      case measure => simp [intOf]; omega
    · obtain rfl : i = l0_1.length := by omega
      have y0 : wr.cell? ⟨w.heap.size + 2, 0, none⟩ = some (.int .i64 a0_0) := (blk_cell HS.out.bT 0).trans rfl
      have y1 : wr.cell? ⟨w.heap.size + 2, 1, none⟩ = some (.slice Ao acc.length co) := (blk_cell HS.out.bT 1).trans rfl
      have u0 := (blk_cell HS.out.bR 0).trans rfl
      have u1 := (blk_cell HS.out.bR 1).trans rfl
      have f0 := blk_frozen HS.out.bR 0
      have f1 := blk_frozen HS.out.bR 1
      clear z1
      go_wp2
      have B1 := blk_set HS.out.bR 0 (.int .i64 a0_0)
      have B2 := blk_set B1 1 (.slice Ao acc.length co)
      have R1 := Kd.R_set HS.out.ro HS.out.bR (by decide) 0 (.int .i64 a0_0)
      have R2 := Kd.R_set R1 B1 (by decide) 1 (.slice Ao acc.length co)
      have e0 := blk_cell B2 0
      have e1 := blk_cell B2 1
      have hacc := HA.out
      rw [← hacc]
      exact bodyPost_ret (v := .agg #[.int .i64 a0_0, .slice Ao acc.length co]) (by simp [results, Try.results58, go_sem, e0, e1]) rfl ⟨_, rfl, R2, below_set (below_set HS.out.be (by omega)) (by omega)⟩
end Go.Proofs.Ytnccomklpfbcpaa.P
