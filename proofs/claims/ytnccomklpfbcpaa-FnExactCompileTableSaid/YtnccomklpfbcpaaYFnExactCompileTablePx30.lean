/- The walk of spec.cbBoard over cbMake (printed by gen_cbb.py). -/
import Derived.Test.YtnccomklpfbcpaaYFnExactCompileTableVMake
import Derived.Test.YtnccomklpfbcpaaYFnExactCompileTableVQ
namespace Go.Proofs.Ytnccomklpfbcpaa.P
open Go.RowKit Go.Proofs.YtnccomklpfbcpaaW.PrintWords Go.Proofs.YtnccomklpfbcpaaW.PrintLast Go.Proofs.YtnccomklpfbcpaaW.PrintMore Go.Proofs.Ytnccomklpfbcpaa.Own Go.Proofs.Ytnccomklpfbcpaa.A
set_option linter.unusedVariables false
set_option linter.unusedSimpArgs false
/-! ### spec_cbBoard: function 38 -/
def spec_cbBoard.f (k : Nat) (a0_0 : Int) (l0_1 : List Int) : Option (Int × Int × (List (S72))) := if SbOk l0_1 then some (((sbQ l0_1).1 : Int), (l0_1.length : Int), (sbQ l0_1).2.2.2) else none
theorem spec_cbBoard.mono : ∀ a0 a1 k, LeO (spec_cbBoard.f k a0 a1) (spec_cbBoard.f (k + 1) a0 a1) := fun _ _ _ _ h => h
set_option maxHeartbeats 4000000 in
set_option maxRecDepth 100000 in
theorem spec_cbBoard.calls (k : Nat) (a0_0 : Int) (A0_1 : Option Addr) (c0_1 : Nat) (l0_1 : List Int) (r1 : Int) (r2 : Int) (r3 : List (S72)) (w : World) (hr0_1 : Kd.C (Kd.int .i64) w A0_1 l0_1.length l0_1) (hc0_1 : l0_1.length ≤ c0_1) (h : spec_cbBoard.f k a0_0 l0_1 = some (r1, r2, r3)) :
    Calls Try.prog 38 #[.agg #[.int .i64 a0_0, .slice A0_1 l0_1.length c0_1]] w fun e w' => ∃ v2_ : Value, e = .returned (.agg #[.int .i64 r1, .int .i64 r2, v2_]) ∧ Kd.R k72 72 w' w.heap.size (fun _ => True) v2_ r3 ∧ Below w.heap.size w w' := by
  have hu28 := Try.underlying28
  have hu39 := Try.underlying39
  have hu48 := Try.underlying48
  unfold spec_cbBoard.f at h
  by_cases hk : SbOk l0_1
  case neg => rw [if_neg hk] at h; simp at h
  rw [if_pos hk] at h
  simp only [Option.some.injEq, Prod.mk.injEq] at h
  obtain ⟨rfl, rfl, rfl⟩ := h
  have HC := Aside0.mk hr0_1
  have HCC := Aside0.mk hc0_1
  have HK1 := Aside0.mk hk.1.1
  have HK8 := Aside0.mk hk.1.2
  have HKW := Aside0.mk hk.2.2
  have hsz1 : (w.alloc (.cells #[.int .i64 a0_0, .slice A0_1 l0_1.length c0_1] 28)).heap.size = w.heap.size + 1 := Array.size_push _
  have B0 := Aside0.mk (blk_alloc (blk_new w (.cells #[.int .i64 a0_0, .slice A0_1 l0_1.length c0_1] 28)) (.cells #[.int .i64 0, .int .i64 0, .slice none 0 0] 39))
  have BZ := Aside0.mk (blk_new (w.alloc (.cells #[.int .i64 a0_0, .slice A0_1 l0_1.length c0_1] 28)) (.cells #[.int .i64 0, .int .i64 0, .slice none 0 0] 39))
  rw [hsz1] at BZ
  have HB0 := Aside0.mk (below_alloc (below_alloc (Below.refl w.heap.size w) (.cells #[.int .i64 a0_0, .slice A0_1 l0_1.length c0_1] 28)) (.cells #[.int .i64 0, .int .i64 0, .slice none 0 0] 39))
  clear hr0_1 hc0_1 hk hsz1
  go_enter Try.func38, Try.ntmps38
  go_wp2_with (first
    | (go_at_call 34; (with_reducible refine (cbMake_own _ _ _ _ _ (Kd.C_below HC.out HB0.out) HCC.out HK1.out HK8.out HKW.out).mono ?_); rintro e w3 ⟨g, gv, cv, ge, ce, vc, rfl, hs⟩; have NZ : Aside0 (w.heap.size + 1 ≠ g) := ⟨Nat.ne_of_lt (Nat.lt_of_lt_of_le (blk_lt BZ.out) hs.lo)⟩; have NC : Aside0 (some (w.heap.size + 1) ≠ vc.ownBlock) := ⟨fun e_ => Nat.lt_irrefl _ (Nat.lt_of_lt_of_le (blk_lt BZ.out) (Kd.R_base hs.ce _ e_.symm))⟩; have B3 := Aside0.mk (blk_below B0.out hs.be); have BZ3 := Aside0.mk (blk_below BZ.out hs.be); have HS := Aside0.mk (hs.lower HB0.out); clear hs HB0 B0 BZ)
    | fail)
  obtain ⟨Ac, cc, ec⟩ := Kd.R_slice HS.out.ce
  subst ec
  have hq2 : (sbQ l0_1).2.2.2 = (roundsL 9 0 l0_1 (iota 0 l0_1.length) []).2.2.2 := rfl
  have hq1 : (sbQ l0_1).1 = (roundsL 9 0 l0_1 (iota 0 l0_1.length) []).1 := rfl
  rw [← hq2] at HS
  rw [← hq1] at HS
  clear hq1 hq2
  have z3 : w3.cell? ⟨g, 3, none⟩ = some (.int .i64 ((sbQ l0_1).1 : Int)) := (blk_cell HS.out.box 3).trans rfl
  have z2 : w3.cell? ⟨g, 2, none⟩ = some (.slice Ac (sbQ l0_1).2.2.2.length cc) := (blk_cell HS.out.box 2).trans rfl
  have y1 : w3.cell? ⟨w.heap.size, 1, none⟩ = some (.slice A0_1 l0_1.length c0_1) := (blk_cell B3.out 1).trans rfl
  clear B3
  refine start_ (n := 13) (S := fun w' => w'.cell? ⟨g, 3, none⟩ = some (.int .i64 ((sbQ l0_1).1 : Int)) ∧ w'.cell? ⟨g, 2, none⟩ = some (.slice Ac (sbQ l0_1).2.2.2.length cc) ∧ w'.cell? ⟨w.heap.size, 1, none⟩ = some (.slice A0_1 l0_1.length c0_1)) (ds := [12]) #[false, false, false, false, false, false, false, false, false, false, false, false, false] (by kernel_rfl) rfl rfl ⟨z3, z2, y1⟩ (fun hHeld => ?_)
  refine Own.anew_ (wN := w3) (by repeat (first | with_reducible exact Below.refl _ _ | with_reducible apply below_alloc | with_reducible apply pw_below_drewN | with_reducible apply below_drew1)) hHeld (fun wy hzb hHeld => ?_)
  replace HS := Aside0.mk (HS.out.below hzb)
  have BZ4 := Aside0.mk (blk_below BZ3.out hzb)
  clear hzb z3 z2 y1 BZ3
  have s0 := (blk_cell BZ4.out 0).trans rfl
  have s1 := (blk_cell BZ4.out 1).trans rfl
  have s2 := (blk_cell BZ4.out 2).trans rfl
  have f0 := blk_frozen BZ4.out 0
  have f1 := blk_frozen BZ4.out 1
  have f2 := blk_frozen BZ4.out 2
  refine pure_ (i := 0) (N := some 6) (v := ?_) (a' := ?_) #[true, false, false, false, false, false, false, false, false, false, false, false, false] rfl rfl (by kernel_rfl) (fun _ _ _ h => h) (Or.inl ⟨by rfl, ?_⟩) ?_ ?_
  rotate_left
  · intro w'
    go_simp
    with_reducible rfl
  rotate_left
  · simp only [Act.put, List.setIfInBounds_toArray, List.set_cons_zero, List.set_cons_succ, i64_w, i32_w]
    rfl
  refine pure_ (i := 1) (N := some 7) (v := ?_) (a' := ?_) #[true, true, false, false, false, false, false, false, false, false, false, false, false] rfl rfl (by kernel_rfl) (fun _ _ _ h => h) (Or.inl ⟨by rfl, ?_⟩) ?_ ?_
  rotate_left
  · intro w'
    go_simp
    with_reducible rfl
  rotate_left
  · simp only [Act.put, List.setIfInBounds_toArray, List.set_cons_zero, List.set_cons_succ, i64_w, i32_w]
    rfl
  refine pure_ (i := 2) (N := some 8) (v := ?_) (a' := ?_) #[true, true, true, false, false, false, false, false, false, false, false, false, false] rfl rfl (by kernel_rfl) (fun _ _ _ h => h) (Or.inl ⟨by rfl, ?_⟩) ?_ ?_
  rotate_left
  · intro w'
    go_simp
    with_reducible rfl
  rotate_left
  · simp only [Act.put, List.setIfInBounds_toArray, List.set_cons_zero, List.set_cons_succ, i64_w, i32_w]
    rfl
  refine take_ (i := 3) (N := some 9) (v := ?_) (a' := ?_) #[true, true, true, true, false, false, false, false, false, false, false, false, false] rfl rfl (by kernel_rfl) (fun _ _ _ h => h) (Or.inl ⟨by rfl, ?_⟩) hHeld ?_ ?_
  rotate_left
  · rintro w' ⟨s0, s1, s2⟩
    go_simp
    with_reducible rfl
  rotate_left
  · simp only [Act.put, List.setIfInBounds_toArray, List.set_cons_zero, List.set_cons_succ, i64_w, i32_w]
    rfl
  refine pure_ (i := 4) (N := some 10) (v := ?_) (a' := ?_) #[true, true, true, true, true, false, false, false, false, false, false, false, false] rfl rfl (by kernel_rfl) (fun _ _ _ h => h) (Or.inl ⟨by rfl, ?_⟩) ?_ ?_
  rotate_left
  · intro w'
    go_simp
    with_reducible rfl
  rotate_left
  · simp only [Act.put, List.setIfInBounds_toArray, List.set_cons_zero, List.set_cons_succ, i64_w, i32_w]
    rfl
  refine take_ (i := 5) (N := some 11) (v := ?_) (a' := ?_) #[true, true, true, true, true, true, false, false, false, false, false, false, false] rfl rfl (by kernel_rfl) (fun _ _ _ h => h) (Or.inl ⟨by rfl, ?_⟩) hHeld ?_ ?_
  rotate_left
  · rintro w' ⟨s0, s1, s2⟩
    go_simp
    with_reducible rfl
  rotate_left
  · simp only [Act.put, List.setIfInBounds_toArray, List.set_cons_zero, List.set_cons_succ, i64_w, i32_w]
    rfl
  refine pure_ (i := 6) (N := some 12) (v := ?_) (a' := ?_) #[true, true, true, true, true, true, true, false, false, false, false, false, false] rfl rfl (by kernel_rfl) (fun _ _ _ h => h) (Or.inl ⟨by rfl, ?_⟩) ?_ ?_
  rotate_left
  · intro w'
    go_simp
    with_reducible rfl
  rotate_left
  · simp only [Act.put, List.setIfInBounds_toArray, List.set_cons_zero, List.set_cons_succ, i64_w, i32_w]
    rfl
  refine pure_ (i := 7) (N := some 13) (v := ?_) (a' := ?_) #[true, true, true, true, true, true, true, true, false, false, false, false, false] rfl rfl (by kernel_rfl) (fun _ _ _ h => h) (Or.inl ⟨by rfl, ?_⟩) ?_ ?_
  rotate_left
  · intro w'
    go_simp
    with_reducible rfl
  rotate_left
  · simp only [Act.put, List.setIfInBounds_toArray, List.set_cons_zero, List.set_cons_succ, i64_w, i32_w]
    rfl
  refine pure_ (i := 8) (N := some 14) (v := ?_) (a' := ?_) #[true, true, true, true, true, true, true, true, true, false, false, false, false] rfl rfl (by kernel_rfl) (fun _ _ _ h => h) (Or.inl ⟨by rfl, ?_⟩) ?_ ?_
  rotate_left
  · intro w'
    go_simp
    with_reducible rfl
  rotate_left
  · simp only [Act.put, List.setIfInBounds_toArray, List.set_cons_zero, List.set_cons_succ, i64_w, i32_w]
    rfl
  refine pure_ (i := 9) (N := some 15) (v := ?_) (a' := ?_) #[true, true, true, true, true, true, true, true, true, true, false, false, false] rfl rfl (by kernel_rfl) (fun _ _ _ h => h) (Or.inl ⟨by rfl, ?_⟩) ?_ ?_
  rotate_left
  · intro w'
    go_simp
    with_reducible rfl
  rotate_left
  · simp only [Act.put, List.setIfInBounds_toArray, List.set_cons_zero, List.set_cons_succ, i64_w, i32_w]
    rfl
  refine take_ (i := 10) (N := some 16) (v := ?_) (a' := ?_) #[true, true, true, true, true, true, true, true, true, true, true, false, false] rfl rfl (by kernel_rfl) (fun _ _ _ h => h) (Or.inl ⟨by rfl, ?_⟩) hHeld ?_ ?_
  rotate_left
  · rintro w' ⟨s0, s1, s2⟩
    go_simp
    with_reducible rfl
  rotate_left
  · simp only [Act.put, List.setIfInBounds_toArray, List.set_cons_zero, List.set_cons_succ, i64_w, i32_w]
    rfl
  refine pure_ (i := 11) (N := some 17) (v := ?_) (a' := ?_) #[true, true, true, true, true, true, true, true, true, true, true, true, false] rfl rfl (by kernel_rfl) (fun _ _ _ h => h) (Or.inl ⟨by rfl, ?_⟩) ?_ ?_
  rotate_left
  · intro w'
    go_simp
    with_reducible rfl
  rotate_left
  · simp only [Act.put, List.setIfInBounds_toArray, List.set_cons_zero, List.set_cons_succ, i64_w, i32_w]
    rfl
  refine last_ (i := 12) (N := none) #[true, true, true, true, true, true, true, true, true, true, true, true, true] rfl rfl (by kernel_rfl) (by decide) (fun K hK => ?_)
  refine skip_ (w1 := (((wy.setCell ⟨w.heap.size + 1, 0, none⟩ (.int .i64 ((sbQ l0_1).1 : Int))).setCell ⟨w.heap.size + 1, 1, none⟩ (.int .i64 (l0_1.length : Int))).setCell ⟨w.heap.size + 1, 2, none⟩ (.slice Ac (sbQ l0_1).2.2.2.length cc))) (by rfl) rfl ?_ ?_
  · first | (go_simp; done) | (go_simp; rfl)
  refine hK.out _ _ ?_
  clear hK K
  refine done_ (by kernel_rfl) ?_
  have q1 := blk_put (cs := #[.int .i64 0, .int .i64 0, .slice none 0 0]) (cs' := #[.int .i64 ((sbQ l0_1).1 : Int), .int .i64 0, .slice none 0 0]) BZ4.out 0 (.int .i64 ((sbQ l0_1).1 : Int)) rfl
  have q2 := blk_put (cs' := #[.int .i64 ((sbQ l0_1).1 : Int), .int .i64 (l0_1.length : Int), .slice none 0 0]) q1 1 (.int .i64 (l0_1.length : Int)) rfl
  have q3 := blk_put (cs' := #[.int .i64 ((sbQ l0_1).1 : Int), .int .i64 (l0_1.length : Int), .slice Ac (sbQ l0_1).2.2.2.length cc]) q2 2 (.slice Ac (sbQ l0_1).2.2.2.length cc) rfl
  have hr := Kd.R_set (Kd.R_set (Kd.R_set HS.out.ce BZ4.out (by decide) 0 (.int .i64 ((sbQ l0_1).1 : Int))) q1 (by decide) 1 (.int .i64 (l0_1.length : Int))) q2 (by decide) 2 (.slice Ac (sbQ l0_1).2.2.2.length cc)
  have hz := below_set (j := 2) (v := .slice Ac (sbQ l0_1).2.2.2.length cc) (below_set (j := 1) (v := .int .i64 (l0_1.length : Int)) (below_set (j := 0) (v := .int .i64 ((sbQ l0_1).1 : Int)) HS.out.be (Nat.le_succ _)) (Nat.le_succ _)) (Nat.le_succ _)
  have HR := Aside0.mk hr
  have HZ := Aside0.mk hz
  clear hr hz hHeld HS s0 s1 s2 f0 f1 f2 q1 q2 BZ4
  generalize (((wy.setCell ⟨w.heap.size + 1, 0, none⟩ (.int .i64 ((sbQ l0_1).1 : Int))).setCell ⟨w.heap.size + 1, 1, none⟩ (.int .i64 (l0_1.length : Int))).setCell ⟨w.heap.size + 1, 2, none⟩ (.slice Ac (sbQ l0_1).2.2.2.length cc)) = wn at q3 HR HZ ⊢
  have e0 := (blk_cell q3 0).trans rfl
  have e1 := (blk_cell q3 1).trans rfl
  have e2 := (blk_cell q3 2).trans rfl
  go_wp2
  exact bodyPost_ret (v := .agg #[.int .i64 ((sbQ l0_1).1 : Int), .int .i64 (l0_1.length : Int), .slice Ac (sbQ l0_1).2.2.2.length cc]) (by simp [results, Try.results38, go_sem, e0, e1, e2]) rfl ⟨_, rfl, HR.out, HZ.out⟩
end Go.Proofs.Ytnccomklpfbcpaa.P
