/- The walk of the reference's bcBoard: a counter of 1 to 5 bits with a value. -/
import Derived.Test.YtcilbmbgdcepgaaYFnExactCountersBesidePx11
import Derived.Deep.RegionWith
import Derived.IntWalk
namespace Go.Proofs.Ytcilbmbgdcepgaa.P
open Go.RowKit Go.Proofs.YtcilbmbgdcepgaaW.PrintWords Go.Proofs.YtcilbmbgdcepgaaW.PrintLast Go.Proofs.YtcilbmbgdcepgaaW.PrintMore
set_option linter.unusedVariables false
/-! ### spec_bcBoard: function 47 -/
def bcBit (v : Int) (i : Nat) : Int := Go.bits .and .i64 (shr .i64 v (i : Int)) 1
/-- The six cells of one bit. -/
def bcSix (v : Int) (i : Nat) : List S71 := [z71, ⟨3, bcBit v i⟩, z71, z71, z71, ⟨1, 0⟩]
/-- The cells of the first m bits. -/
def bcCells (v : Int) : Nat → List S71
  | 0 => []
  | m + 1 => bcCells v m ++ bcSix v m
theorem bcCells_length (v : Int) (m : Nat) : (bcCells v m).length = 6 * m := by
  induction m with
  | zero => rfl
  | succ m ih => simp [bcCells, bcSix, ih]; omega
/-- .. and what is not yet laid. -/
def bcStage (v : Int) (n m : Nat) : List S71 := bcCells v m ++ List.replicate (6 * (n - m)) z71
theorem bcStage_length (v : Int) (n m : Nat) (h : m ≤ n) : (bcStage v n m).length = 6 * n := by
  simp [bcStage, bcCells_length]; omega
theorem bcStage_next (v : Int) (n m : Nat) (h : m < n) : ((bcStage v n m).set (6 * m + 1) ⟨3, bcBit v m⟩).set (6 * m + 5) ⟨1, 0⟩ = bcStage v n (m + 1) := by
  have e : List.replicate (6 * (n - m)) z71 = [z71, z71, z71, z71, z71, z71] ++ List.replicate (6 * (n - (m + 1))) z71 := by
    rw [show 6 * (n - m) = 6 + 6 * (n - (m + 1)) by omega, ← List.replicate_append_replicate]; rfl
  unfold bcStage
  rw [e, List.set_append_right _ _ (by rw [bcCells_length]; omega), List.set_append_right _ _ (by rw [bcCells_length]; omega), bcCells_length]
  rw [show 6 * m + 1 - 6 * m = 1 by omega, show 6 * m + 5 - 6 * m = 5 by omega]
  simp [bcCells, bcSix, List.append_assoc]
def spec_bcBoard.f (k : Nat) (a0 : Int) (a1 : Int) : Option (Int × Int × List S71) := if 1 ≤ a0 ∧ a0 ≤ 5 then some (2 * a0, 3, bcCells a1 a0.toNat) else none
theorem spec_bcBoard.mono : ∀ a0 a1 k, LeO (spec_bcBoard.f k a0 a1) (spec_bcBoard.f (k + 1) a0 a1) := fun a0 a1 k r h => h
theorem bcBit_f (v : Int) (j : Nat) (h : j < 5) : spec_ttBit.f v (j : Int) = some (bcBit v j) := by
  have e : IntKind.u64.wrap (j : Int) = (j : Int) := by
    have : j = 0 ∨ j = 1 ∨ j = 2 ∨ j = 3 ∨ j = 4 := by omega
    rcases this with rfl | rfl | rfl | rfl | rfl <;> decide
  unfold spec_ttBit.f bcBit
  rw [e, if_pos (by omega)]
/-- A cell stored in a row of one's own. -/
theorem cell_put {w : World} {base g n cap : Nat} {ok : Nat → Prop} {xs : List S71} (h : Kd.R k71 71 w base ok (.slice (some ⟨g, 0, none⟩) n cap) xs) (i : Nat) (hi : i < n) (x : S71) :
    Kd.R k71 71 ((w.setCell ⟨g, i * 2, none⟩ (.int .i64 x.f0)).setCell ⟨g, i * 2 + 1, none⟩ (.int .i64 x.f1)) base ok (.slice (some ⟨g, 0, none⟩) n cap) (xs.set i x) ∧
      (∃ a, w.cell? ⟨g, i * 2, none⟩ = some a) ∧ (∃ a, w.cell? ⟨g, i * 2 + 1, none⟩ = some a) ∧ w.frozen? ⟨g, i * 2, none⟩ = false ∧ w.frozen? ⟨g, i * 2 + 1, none⟩ = false := by
  obtain ⟨ce, hcl, hM, hcc, hfr⟩ := Kd.R_elem h z71 (i : Int) (by omega) (by omega)
  obtain rfl := k71_openM hM
  have hs := (Kd.R_seg h (i : Int) (by omega) (by omega) (seg := [.int .i64 x.f0, .int .i64 x.f1]) (j := 0) hcl hcc (show 2 ≤ 2 by decide) (x' := x) (okp := fun _ => False) (k71_mkM _ _ _ x) (fun _ hk => hk.elim)).1
  have h0 := hcc 0 _ rfl
  have h1 := hcc 1 _ rfl
  have f0 := hfr 0
  have f1 := hfr 1
  simp only [show (k71).sz = 2 from rfl, Int.toNat_natCast, Nat.add_zero] at hs h0 h1 f0 f1
  exact ⟨hs, ⟨_, h0⟩, ⟨_, h1⟩, f0, f1⟩
theorem six_form {w : World} {base : Nat} {ok : Nat → Prop} {u : Value} (v : Int) (n : Nat) (h1 : 1 ≤ n) (h : Kd.R k71 71 w base ok u (List.replicate (6 * (n : Int)).toNat z71)) :
    ∃ g cap, u = .slice (some ⟨g, 0, none⟩) (6 * n) cap ∧ base ≤ g := by
  obtain ⟨g, cp, rfl, hg, _⟩ := Kd.R_form h (by simp; omega)
  exact ⟨g, cp, by simp; omega, hg⟩
set_option maxHeartbeats 2000000 in
set_option maxRecDepth 100000 in
theorem spec_bcBoard.walk (n : Nat) (v : Int) (w : World) (h1 : 1 ≤ n) (h5 : n ≤ 5) :
    Calls Try.prog 47 #[.int .i64 n, .int .i64 v] w fun e w' => ∃ u : Value, e = .returned (.agg #[.int .i64 (2 * n), .int .i64 3, u]) ∧ Kd.R k71 71 w' w.heap.size (fun _ => True) u (bcCells v n) ∧ Below w.heap.size w w' := by
  have hu36 := Try.underlying24
  have hu59 := Try.underlying71
  have hb0 : ∀ o, Below w.heap.size w (w.alloc o) := fun o => (Below.refl _ _).alloc (Nat.le_refl _) _
  go_enter Try.func47, Try.ntmps47
  go_wp2_with ((with_reducible refine gate_dst (N := 11) rfl ?_); refine Kd.R_make k71 _ 71 rfl (N := 11) rfl 22 _ _ rfl (6 * (n : Int)) rfl rfl Try.underlying22 (.agg #[.int .i64 0, .int .i64 0]) 16 info71 rfl (by decide) (by omega) z71 (ok := fun _ => True) (okp := fun _ => False) (k71_mkM _ _ _ _) (fun _ hk => trivial) trivial (by omega) (by omega) (hb0 _) (by simp) ?_; intro v1 w1 hR hb hgr _; obtain ⟨g, cp, rfl, hg1⟩ := six_form v n h1 hR; have BZ := Aside0.mk (blk_grown (blk_new w (.cells #[.int .i64 0, .int .i64 0, .slice none 0 0] 24)) hgr (by simp)); have HR := Aside0.mk hR; have HB := Aside0.mk hb; clear hR hb hgr)
  have hgl : g < w1.heap.size := Kd.R_lt HR.out g rfl
  have hwl : w.heap.size ≤ w1.heap.size := HB.out.size
  have BK0 := Aside0.mk (blk_new w1 (.cells #[.int .i64 (2 * n), .int .i64 3, .slice (some ⟨g, 0, none⟩) (6 * n) cp] 24))
  have HR0 := Aside0.mk (Kd.R_alloc HR.out (.cells #[.int .i64 (2 * n), .int .i64 3, .slice (some ⟨g, 0, none⟩) (6 * n) cp] 24))
  have HB0 := Aside0.mk (below_alloc HB.out (.cells #[.int .i64 (2 * n), .int .i64 3, .slice (some ⟨g, 0, none⟩) (6 * n) cp] 24))
  have BZ0 := Aside0.mk (blk_alloc BZ.out (.cells #[.int .i64 (2 * n), .int .i64 3, .slice (some ⟨g, 0, none⟩) (6 * n) cp] 24))
  have hwl2 : w.heap.size < w1.heap.size := blk_lt BZ.out
  clear BZ
  obtain ⟨gb, hgb⟩ : ∃ gb, gb = w1.heap.size := ⟨_, rfl⟩
  rw [← hgb] at BK0 hgl hwl hwl2 ⊢
  clear hgb HR HB
  go_loopw [6] (fun i wr => ∃ j : Nat, j ≤ n ∧ i = .int .i64 j ∧ Aside0 (Kd.R k71 71 wr w.heap.size (fun _ => True) (.slice (some ⟨g, 0, none⟩) (6 * n) cp) (bcStage v n j)) ∧ Aside0 (wr.heap[gb]? = some (.cells #[.int .i64 (2 * n), .int .i64 3, .slice (some ⟨g, 0, none⟩) (6 * n) cp] 24 (0, 0))) ∧ Aside0 (wr.heap[w.heap.size]? = some (.cells #[.int .i64 0, .int .i64 0, .slice none 0 0] 24 (0, 0))) ∧ Aside0 (Below w.heap.size w wr)) (fun i _ => n - (intOf i).toNat)
  case atStart => exact ⟨0, Nat.zero_le _, rfl, ⟨by have := HR0.out; rw [show (6 * (n : Int)).toNat = 6 * n by omega] at this; simpa [bcStage, bcCells] using this⟩, BK0, BZ0, HB0⟩
  case round =>
    clear HR0 BK0 BZ0 HB0
    obtain ⟨j, hj, rfl, HR, BK, BZ, HB⟩ := hrel
    have hgz : g ≠ w.heap.size := fun e => Kd.R_ne HR.out BZ.out (by decide) (by rw [← e]; rfl)
    have c2 : wr.cell? ⟨gb, 2, none⟩ = some (.slice (some ⟨g, 0, none⟩) (6 * n) cp) := (blk_cell BK.out 2).trans rfl
    have c0 : wr.cell? ⟨gb, 0, none⟩ = some (.int .i64 (2 * n)) := (blk_cell BK.out 0).trans rfl
    have c1 : wr.cell? ⟨gb, 1, none⟩ = some (.int .i64 3) := (blk_cell BK.out 1).trans rfl
    by_cases hlt : j < n
    · have HT := Aside0.mk (bcBit_f v j (by omega))
      obtain ⟨_, ⟨x0, hx0⟩, ⟨x1, hx1⟩, fx0, fx1⟩ := cell_put HR.out (6 * j + 1) (by omega) ⟨3, bcBit v j⟩
      obtain ⟨_, ⟨y0, hy0⟩, ⟨y1, hy1⟩, fy0, fy1⟩ := cell_put HR.out (6 * j + 5) (by omega) ⟨1, 0⟩
      have hgg : g ≠ gb := by omega
      go_wp2_with fail
      have e1 : IntKind.i64.wrap (6 * (j : Int)) = 6 * (j : Int) := IntWalk.i64_in _ (by omega)
      have e2 : IntKind.i64.wrap (6 * (j : Int) + 1) = 6 * (j : Int) + 1 := IntWalk.i64_in _ (by omega)
      have e3 : (6 * (j : Int) + 1).toNat = 6 * j + 1 := by omega
      have e4 : (0 : Int) ≤ 6 * (j : Int) + 1 := by omega
      have e5 : 6 * (j : Int) + 1 < ((6 * n : Nat) : Int) := by omega
      go_region_with (go_at_call 81; refine (spec_ttBit.calls v j (bcBit v j) _ HT.out).mono ?_; rintro e w2 ⟨rfl, ⟨nd, rfl⟩⟩)
      all_goals
        go_wp2_with fail
        go_roundw
        case rel =>
          refine ⟨j + 1, by omega, by go_num, ⟨?_⟩, ⟨?_⟩, ⟨?_⟩, ⟨?_⟩⟩
          · rw [← bcStage_next v n j hlt]
            exact (cell_put (cell_put (Kd.R_drewN HR.out _) (6 * j + 1) (by omega) ⟨3, bcBit v j⟩).1 (6 * j + 5) (by omega) ⟨1, 0⟩).1
          · exact blk_far (blk_far (blk_far (blk_far (blk_drewN BK.out _) (Ne.symm hgg) _) (Ne.symm hgg) _) (Ne.symm hgg) _) (Ne.symm hgg) _
          · exact blk_far (blk_far (blk_far (blk_far (blk_drewN BZ.out _) (Ne.symm hgz) _) (Ne.symm hgz) _) (Ne.symm hgz) _) (Ne.symm hgz) _
          · exact below_set (below_set (below_set (below_set (pw_below_drewN HB.out _) hg1) hg1) hg1) hg1
        case measure => simp [intOf]; omega
    · obtain rfl : j = n := by omega
      have z0 : wr.cell? ⟨w.heap.size, 0, none⟩ = some (.int .i64 0) := (blk_cell BZ.out 0).trans rfl
      have z1 : wr.cell? ⟨w.heap.size, 1, none⟩ = some (.int .i64 0) := (blk_cell BZ.out 1).trans rfl
      have z2 : wr.cell? ⟨w.heap.size, 2, none⟩ = some (.slice none 0 0) := (blk_cell BZ.out 2).trans rfl
      have y0 := blk_frozen BZ.out 0
      have y1 := blk_frozen BZ.out 1
      have y2 := blk_frozen BZ.out 2
      go_wp2_with fail
      have ht : ∀ q, q ∈ 71 :: (k71).E → q ≠ 24 := by decide
      have R1 := Kd.R_set HR.out BZ.out ht 0 (.int .i64 (2 * j))
      have B1 := blk_set BZ.out 0 (.int .i64 (2 * j))
      have R2 := Kd.R_set R1 B1 ht 1 (.int .i64 3)
      have B2 := blk_set B1 1 (.int .i64 3)
      have R3 := Kd.R_set R2 B2 ht 2 (.slice (some ⟨g, 0, none⟩) (6 * j) cp)
      have B3 := blk_set B2 2 (.slice (some ⟨g, 0, none⟩) (6 * j) cp)
      have hc0 := blk_cell B3 0
      have hc1 := blk_cell B3 1
      have hc2 := blk_cell B3 2
      have e : bcStage v j j = bcCells v j := by simp [bcStage]
      rw [e] at R3
      refine bodyPost_ret (v := .agg #[.int .i64 (2 * j), .int .i64 3, .slice (some ⟨g, 0, none⟩) (6 * j) cp]) (by simp [results, Try.results47, go_sem, hc0, hc1, hc2]) rfl ⟨_, rfl, R3, below_set (below_set (below_set HB.out (Nat.le_refl _)) (Nat.le_refl _)) (Nat.le_refl _)⟩
theorem spec_bcBoard.calls (k : Nat) (a0 : Int) (a1 : Int) (r1 : Int) (r2 : Int) (r3 : List S71) (w : World) (h : spec_bcBoard.f k a0 a1 = some (r1, r2, r3)) :
    Calls Try.prog 47 #[.int .i64 a0, .int .i64 a1] w fun e w' => ∃ v2_ : Value, e = .returned (.agg #[.int .i64 r1, .int .i64 r2, v2_]) ∧ Kd.R k71 71 w' w.heap.size (fun _ => True) v2_ r3 ∧ Below w.heap.size w w' := by
  unfold spec_bcBoard.f at h
  by_cases c : 1 ≤ a0 ∧ a0 ≤ 5
  · rw [if_pos c] at h
    obtain ⟨n, rfl⟩ := Int.eq_ofNat_of_zero_le (show 0 ≤ a0 by omega)
    simp only [Option.some.injEq, Prod.mk.injEq] at h
    obtain ⟨rfl, rfl, rfl⟩ := h
    exact spec_bcBoard.walk n a1 w (by omega) (by omega)
  · rw [if_neg c] at h; simp at h
end Go.Proofs.Ytcilbmbgdcepgaa.P
