/- The walk of spec.SortedEntries over cbMake. -/
import Derived.Test.YtnccomklpfbcpaaZFnExactSortedEntries0
import Derived.Test.YtnccomklpfbcpaaYFnExactSortedEntriesVMake
import Derived.Test.YtnccomklpfbcpaaYFnExactSortedEntriesVQ
namespace Go.Proofs.Ytnccomklpfbcpaa.P
open Go.RowKit Go.Proofs.YtnccomklpfbcpaaW.PrintWords Go.Proofs.YtnccomklpfbcpaaW.PrintLast Go.Proofs.YtnccomklpfbcpaaW.PrintMore Go.Proofs.Ytnccomklpfbcpaa.Own Go.Proofs.Ytnccomklpfbcpaa.A
set_option linter.unusedVariables false
set_option linter.unusedSimpArgs false
/-! ### spec_SortedEntries: function 14 -/
def spec_SortedEntries.f (k : Nat) (a0_0 : Int) (l0_1 : List Int) : Option (List Int × Bool) := (spec_cbSmall.f k a0_0 l0_1).bind fun t => (if t = true then (if SbOk l0_1 then some ((sbQ l0_1).2.2.1, true) else none) else some (([] : List Int), false))
theorem spec_SortedEntries.mono : ∀ a0 a1 k, LeO (spec_SortedEntries.f k a0 a1) (spec_SortedEntries.f (k + 1) a0 a1) := by
  intro a0 a1 k
  unfold spec_SortedEntries.f
  exact LeO.bind (spec_cbSmall.mono _ _ _) (fun _ => LeO.refl _)
set_option maxHeartbeats 4000000 in
set_option maxRecDepth 100000 in
theorem spec_SortedEntries.calls (k : Nat) (a0_0 : Int) (A0_1 : Option Addr) (c0_1 : Nat) (l0_1 : List Int) (r1 : List Int) (r2 : Bool) (w : World) (hr0_1 : Kd.C (Kd.int .i64) w A0_1 l0_1.length l0_1) (hc0_1 : l0_1.length ≤ c0_1) (h : spec_SortedEntries.f k a0_0 l0_1 = some (r1, r2)) :
    Calls Try.prog 14 #[.agg #[.int .i64 a0_0, .slice A0_1 l0_1.length c0_1]] w fun e w' => ∃ v0_ : Value, e = .returned (.tuple #[v0_, .bool r2]) ∧ Kd.R (Kd.int .i64) 3 w' w.heap.size (fun _ => True) v0_ r1 ∧ Below w.heap.size w w' := by
  have hu28 := Try.underlying28
  have hu48 := Try.underlying48
  unfold spec_SortedEntries.f at h
  obtain ⟨t, ht, h⟩ := Option.bind_eq_some_iff.mp h
  have HC := Aside0.mk hr0_1
  have HCC := Aside0.mk hc0_1
  have HT := Aside0.mk ht
  have B0 := Aside0.mk (blk_new w (.cells #[.int .i64 a0_0, .slice A0_1 l0_1.length c0_1] 28))
  have HB0 := Aside0.mk (below_alloc (Below.refl w.heap.size w) (.cells #[.int .i64 a0_0, .slice A0_1 l0_1.length c0_1] 28))
  clear hr0_1 hc0_1 ht
  cases t
  · rw [if_neg (by decide)] at h
    simp only [Option.some.injEq, Prod.mk.injEq] at h
    obtain ⟨rfl, rfl⟩ := h
    go_enter Try.func14, Try.ntmps14
    go_wp2_with (first
      | (go_at_call 33; (with_reducible refine (spec_cbSmall.calls _ _ _ _ _ _ _ (Kd.C_below HC.out HB0.out) HCC.out HT.out).mono ?_); rintro e w2 ⟨rfl, hb⟩; have HB2 := Aside0.mk (below_step HB0.out hb); clear hb HB0 B0 HT)
      | fail)
    go_ret2
    exact ⟨_, rfl, Kd.R_nil _ _ _ _ _, HB2.out⟩
  · rw [if_pos rfl] at h
    by_cases hk : SbOk l0_1
    case neg => rw [if_neg hk] at h; simp at h
    rw [if_pos hk] at h
    simp only [Option.some.injEq, Prod.mk.injEq] at h
    obtain ⟨rfl, rfl⟩ := h
    have HK1 := Aside0.mk hk.1.1
    have HK8 := Aside0.mk hk.1.2
    have HKW := Aside0.mk hk.2.2
    clear hk
    go_enter Try.func14, Try.ntmps14
    go_wp2_with (first
      | (go_at_call 33; (with_reducible refine (spec_cbSmall.calls _ _ _ _ _ _ _ (Kd.C_below HC.out HB0.out) HCC.out HT.out).mono ?_); rintro e w2 ⟨rfl, hb⟩; have HB2 := Aside0.mk (below_step HB0.out hb); have y0 : w2.cell? ⟨w.heap.size, 0, none⟩ = some (.int .i64 a0_0) := (blk_cell (blk_below B0.out hb) 0).trans rfl; have y1 : w2.cell? ⟨w.heap.size, 1, none⟩ = some (.slice A0_1 l0_1.length c0_1) := (blk_cell (blk_below B0.out hb) 1).trans rfl; clear hb HB0 B0 HT)
      | (go_at_call 34; (with_reducible refine (cbMake_own _ _ _ _ _ (Kd.C_below HC.out HB2.out) HCC.out HK1.out HK8.out HKW.out).mono ?_); rintro e w3 ⟨g, gv, cv, ge, ce, vc, rfl, hs⟩; have HS := Aside0.mk (hs.lower HB2.out); clear hs HB2 y0 y1; have z_ : w3.cell? ⟨g, 1, none⟩ = some (.slice (some ⟨ge, 0, none⟩) l0_1.length ce) := (blk_cell HS.out.box 1).trans rfl)
      | fail)
    go_ret2
    exact ⟨_, rfl, HS.out.en, HS.out.be⟩
end Go.Proofs.Ytnccomklpfbcpaa.P
