/- The walk of impl.IsSymmetric (printed by gen_sw.py). -/
import Derived.Test.YtnccomklpfbcpaaYFnExactSymmetricValuesPx16
import Derived.Test.YtnccomklpfbcpaaYFnExactSymmetricValuesPx43
import Derived.Test.YtnccomklpfbcpaaYFnExactSymmetricValuesPx41
import Derived.Test.YtnccomklpfbcpaaYFnExactSymmetricValuesATab
import Derived.Test.YtnccomklpfbcpaaOwnW
namespace Go.Proofs.Ytnccomklpfbcpaa.P
open Go.RowKit Go.Proofs.YtnccomklpfbcpaaW.PrintWords Go.Proofs.YtnccomklpfbcpaaW.PrintLast Go.Proofs.YtnccomklpfbcpaaW.PrintMore Go.Proofs.Ytnccomklpfbcpaa.Own Go.Proofs.Ytnccomklpfbcpaa.A
set_option linter.unusedVariables false
set_option linter.unusedSimpArgs false
attribute [local go_sem] Instr.field asAgg
def symR (k : Nat) (a : Int) (l : List Int) : Nat → Nat → Option (Bool × Bool)
  | 0, _ => some (true, true)
  | d + 1, i => (impl_swapped.f k a l ((i : Int) - 1) (i : Int)).bind fun b => (slices_Equal_int_int.f k b.2 l).bind fun t => if t = true then symR k a l d (i + 1) else some (false, true)
/-! ### impl_IsSymmetric: function 41 -/
def impl_IsSymmetric.f (k : Nat) (a0_0 : Int) (l0_1 : List Int) : Option (Bool × Bool) := if TabOk a0_0 l0_1 then symR k a0_0 l0_1 (a0_0.toNat - 1) 1 else (impl_IsTable.f k a0_0 l0_1).bind fun t => if t = true then none else some (false, false)
theorem symR_mono : ∀ (d : Nat) (a0 : Int) (a1 : List Int) (i k : Nat), LeO (symR k a0 a1 d i) (symR (k + 1) a0 a1 d i) := by
  intro d
  induction d with
  | zero => intro a0 a1 i k; exact LeO.refl _
  | succ d ih =>
    intro a0 a1 i k
    unfold symR
    refine LeO.bind (impl_swapped.mono _ _ _ _ _) (fun b => LeO.bind (slices_Equal_int_int.mono _ _ _) (fun t => LeO.ite (ih _ _ _ _) (LeO.refl _)))
theorem impl_IsSymmetric.mono : ∀ a0 a1 k, LeO (impl_IsSymmetric.f k a0 a1) (impl_IsSymmetric.f (k + 1) a0 a1) := by
  intro a0 a1 k
  unfold impl_IsSymmetric.f
  exact LeO.ite (symR_mono _ _ _ _ _) (LeO.bind (impl_IsTable.mono _ _ _) (fun _ => LeO.refl _))
set_option maxHeartbeats 8000000 in
set_option maxRecDepth 100000 in
theorem impl_IsSymmetric.calls (k : Nat) (a0_0 : Int) (A0_1 : Option Addr) (c0_1 : Nat) (l0_1 : List Int) (r1 : Bool) (r2 : Bool) (w : World) (hr0_1 : Kd.C (Kd.int .i64) w A0_1 l0_1.length l0_1) (hc0_1 : l0_1.length ≤ c0_1) (h : impl_IsSymmetric.f k a0_0 l0_1 = some (r1, r2)) :
    Calls Try.prog 41 #[.agg #[.int .i64 a0_0, .slice A0_1 l0_1.length c0_1]] w fun e w' => e = .returned (.tuple #[.bool r1, .bool r2]) ∧ Below w.heap.size w w' := by
  have hu28 := Try.underlying28
  unfold impl_IsSymmetric.f at h
  have HC := Aside0.mk hr0_1
  have HCC := Aside0.mk hc0_1
  have B0 := Aside0.mk (blk_new w (.cells #[.int .i64 a0_0, .slice A0_1 l0_1.length c0_1] 28))
  have HB0 := Aside0.mk (below_alloc (Below.refl w.heap.size w) (.cells #[.int .i64 a0_0, .slice A0_1 l0_1.length c0_1] 28))
  clear hr0_1 hc0_1
  by_cases hk : TabOk a0_0 l0_1
  case neg =>
    rw [if_neg hk] at h
    obtain ⟨t, ht, h⟩ := Option.bind_eq_some_iff.mp h
    cases t
    case true => simp at h
    rw [if_neg (by decide)] at h
    simp only [Option.some.injEq, Prod.mk.injEq] at h
    obtain ⟨rfl, rfl⟩ := h
    have HT := Aside0.mk ht
    clear ht
    go_enter Try.func41, Try.ntmps41
    go_wp2_with (first
      | (go_at_call 35; (with_reducible refine (impl_IsTable.calls _ _ _ _ _ _ _ (Kd.C_below HC.out HB0.out) HCC.out HT.out).mono ?_); rintro e w2 ⟨rfl, hb⟩; have HB2 := Aside0.mk (below_step HB0.out hb); have B2 := Aside0.mk (blk_below B0.out hb); clear hb HB0 B0 HT)
      | fail)
    go_ret2
    exact ⟨rfl, HB2.out⟩
  rw [if_pos hk] at h
  have hl16 : l0_1.length ≤ 16 := by
    obtain ⟨⟨p0, p4⟩, pl, _⟩ := hk
    have hc : a0_0 = 0 ∨ a0_0 = 1 ∨ a0_0 = 2 ∨ a0_0 = 3 ∨ a0_0 = 4 := by omega
    rcases hc with rfl | rfl | rfl | rfl | rfl <;> simp at pl <;> omega
  obtain ⟨K, hK⟩ := isTable a0_0 l0_1 (by simp only [maxLen]; omega)
  have HT : Aside0 (impl_IsTable.f K a0_0 l0_1 = some true) := ⟨(hK K (Nat.le_refl _)).trans (by rw [decide_eq_true hk])⟩
  have ha0 := hk.1.1
  have ha4 := hk.1.2
  obtain ⟨m, rfl⟩ : ∃ m : Nat, a0_0 = (m : Int) := ⟨a0_0.toNat, by omega⟩
  rw [Int.toNat_natCast] at h
  have H1 := Aside0.mk h
  have hm4 : m ≤ 4 := by omega
  clear h hk hK ha0 ha4
  go_enter Try.func41, Try.ntmps41
  go_wp2_with (first
    | (go_at_call 35; (with_reducible refine (impl_IsTable.calls _ _ _ _ _ _ _ (Kd.C_below HC.out HB0.out) HCC.out HT.out).mono ?_); rintro e w2 ⟨rfl, hb⟩; have HB2 := Aside0.mk (below_step HB0.out hb); have B2 := Aside0.mk (blk_below B0.out hb); clear hb HB0 B0 HT)
    | fail)
  go_loopw [4] (fun v4 wr => ∃ (i : Nat), v4 = .int .i64 i ∧ 1 ≤ i ∧ i ≤ 5 ∧ Aside0 (symR k (m : Int) l0_1 (m - i) i = some (r1, r2)) ∧ Aside0 (wr.heap[w.heap.size]? = some (.cells #[.int .i64 (m : Int), .slice A0_1 l0_1.length c0_1] 28 (0, 0))) ∧ Aside0 (Below w.heap.size w wr)) (fun i _ => 5 - (intOf i).toNat)
  case atStart => exact ⟨1, rfl, by omega, by omega, H1, B2, HB2⟩
  case round =>
    clear H1 B2 HB2
    obtain ⟨i, rfl, hi1, hi5, HQ, BA, HB⟩ := hrel
    have z0 : wr.cell? ⟨w.heap.size, 0, none⟩ = some (.int .i64 (m : Int)) := (blk_cell BA.out 0).trans rfl
    have z1 : wr.cell? ⟨w.heap.size, 1, none⟩ = some (.slice A0_1 l0_1.length c0_1) := (blk_cell BA.out 1).trans rfl
    by_cases hlt : i < m
    · have hq := HQ.out
      obtain ⟨d, hd⟩ : ∃ d, m - i = d + 1 := ⟨m - i - 1, by omega⟩
      have hd2 : m - (i + 1) = d := by omega
      rw [hd] at hq
      unfold symR at hq
      obtain ⟨⟨b1, b2⟩, hs, hq⟩ := Option.bind_eq_some_iff.mp hq
      obtain ⟨t, ht, hq⟩ := Option.bind_eq_some_iff.mp hq
      have HS := Aside0.mk hs
      have HE := Aside0.mk ht
      have HQ2 := Aside0.mk hq
      have e1 : IntKind.i64.wrap ((i : Int) - 1) = (i : Int) - 1 := IntWalk.i64_in _ (by omega)
      clear hs ht hq hd HQ
      go_wp2
      refine start_ (n := 10) (S := fun w' => w'.cell? ⟨w.heap.size, 0, none⟩ = some (.int .i64 (m : Int)) ∧ w'.cell? ⟨w.heap.size, 1, none⟩ = some (.slice A0_1 l0_1.length c0_1)) (ds := []) #[false, false, false, false, false, false, false, false, false, false] (by kernel_rfl) rfl rfl ⟨z0, z1⟩ (fun hHeld => ?_)
      refine Own.anew_ (wN := wr) (by repeat (first | with_reducible exact Below.refl _ _ | with_reducible apply below_alloc | with_reducible apply pw_below_drewN | with_reducible apply below_drew1)) hHeld (fun wy hzb hHeld => ?_)
      replace BA := Aside0.mk (blk_below BA.out hzb)
      replace HB := Aside0.mk (below_step HB.out hzb)
      clear hzb z0 z1
      refine pure_ (i := 1) (N := some 15) (v := ?_) (a' := ?_) #[false, true, false, false, false, false, false, false, false, false] rfl rfl (by kernel_rfl) (fun _ _ _ h => h) (Or.inl ⟨by rfl, ?_⟩) ?_ ?_
      rotate_left
      · intro w'
        go_simp
        with_reducible rfl
      rotate_left
      · simp only [Act.put, List.setIfInBounds_toArray, List.set_cons_zero, List.set_cons_succ, i64_w, i32_w]
        rfl
      refine pure_ (i := 2) (N := some 16) (v := ?_) (a' := ?_) #[false, true, true, false, false, false, false, false, false, false] rfl rfl (by kernel_rfl) (fun _ _ _ h => h) (Or.inl ⟨by rfl, ?_⟩) ?_ ?_
      rotate_left
      · intro w'
        go_simp
        with_reducible rfl
      rotate_left
      · simp only [Act.put, List.setIfInBounds_toArray, List.set_cons_zero, List.set_cons_succ, i64_w, i32_w]
        rfl
      refine pure_ (i := 3) (N := some 17) (v := ?_) (a' := ?_) #[false, true, true, true, false, false, false, false, false, false] rfl rfl (by kernel_rfl) (fun _ _ _ h => h) (Or.inl ⟨by rfl, ?_⟩) ?_ ?_
      rotate_left
      · intro w'
        go_simp
        with_reducible rfl
      rotate_left
      · simp only [Act.put, List.setIfInBounds_toArray, List.set_cons_zero, List.set_cons_succ, i64_w, i32_w]
        rfl
      refine pure_ (i := 6) (N := some 20) (v := ?_) (a' := ?_) #[false, true, true, true, false, false, true, false, false, false] rfl rfl (by kernel_rfl) (fun _ _ _ h => h) (Or.inl ⟨by rfl, ?_⟩) ?_ ?_
      rotate_left
      · intro w'
        go_simp
        with_reducible rfl
      rotate_left
      · simp only [Act.put, List.setIfInBounds_toArray, List.set_cons_zero, List.set_cons_succ, i64_w, i32_w]
        rfl
      refine take_ (i := 0) (N := some 14) (v := ?_) (a' := ?_) #[true, true, true, true, false, false, true, false, false, false] rfl rfl (by kernel_rfl) (fun _ _ _ h => h) (Or.inl ⟨by rfl, ?_⟩) hHeld ?_ ?_
      rotate_left
      · rintro w' ⟨s0, s1⟩
        go_simp
        with_reducible rfl
      rotate_left
      · simp only [Act.put, List.setIfInBounds_toArray, List.set_cons_zero, List.set_cons_succ, i64_w, i32_w]
        rfl
      refine take_ (i := 7) (N := some 21) (v := ?_) (a' := ?_) #[true, true, true, true, false, false, true, true, false, false] rfl rfl (by kernel_rfl) (fun _ _ _ h => h) (Or.inl ⟨by rfl, ?_⟩) hHeld ?_ ?_
      rotate_left
      · rintro w' ⟨s0, s1⟩
        go_simp
        with_reducible rfl
      rotate_left
      · simp only [Act.put, List.setIfInBounds_toArray, List.set_cons_zero, List.set_cons_succ, i64_w, i32_w]
        rfl
      refine one_ (i := 4) (N := some 18) #[true, true, true, true, true, false, true, true, false, false] rfl rfl (by kernel_rfl) (by decide) (fun K hK => ?_)
      refine goes_ Try.func60 (by kernel_rfl) rfl #[.agg #[.int .i64 (m : Int), .slice A0_1 l0_1.length c0_1], .int .i64 ((i : Int) - 1), .int .i64 (i : Int)] (by rfl) rfl rfl (by (try simp only [List.map_toArray, List.map_cons, List.map_nil]); first | done | rfl) ?_
      with_reducible refine (impl_swapped.calls k (m : Int) _ _ l0_1 ((i : Int) - 1) (i : Int) b1 b2 _ (Kd.C_below HC.out HB.out) HCC.out HS.out).mono ?_
      rintro e w5 ⟨v1, rfl, ho, hb⟩
      refine ⟨_, rfl, ?_⟩
      replace BA := Aside0.mk (blk_below BA.out hb)
      replace HB := Aside0.mk (below_step HB.out hb)
      obtain ⟨Ao, co, eo⟩ := Kd.R_slice ho
      subst eo
      have h_ := Kd.R_reads' ho
      have HO := Aside0.mk h_.2.2
      have HO2 := Aside0.mk h_.2.1
      clear ho hb h_
      refine hK.out _ _ ⟨(blk_cell BA.out 0).trans rfl, (blk_cell BA.out 1).trans rfl⟩ (fun hHeld => ?_)
      clear hK K
      refine norm_ (a' := ?_) ?_ ?_
      rotate_left
      · show Act.put _ (some 18) _ = _
        simp only [Act.put, List.setIfInBounds_toArray, List.set_cons_zero, List.set_cons_succ, i64_w, i32_w]
        rfl
      refine pure_ (i := 5) (N := some 19) (v := ?_) (a' := ?_) #[true, true, true, true, true, true, true, true, false, false] rfl rfl (by kernel_rfl) (fun _ _ _ h => h) (Or.inl ⟨by rfl, ?_⟩) ?_ ?_
      rotate_left
      · intro w'
        go_simp
        with_reducible rfl
      rotate_left
      · simp only [Act.put, List.setIfInBounds_toArray, List.set_cons_zero, List.set_cons_succ, i64_w, i32_w]
        rfl
      refine one_ (i := 8) (N := some 22) #[true, true, true, true, true, true, true, true, true, false] rfl rfl (by kernel_rfl) (by decide) (fun K hK => ?_)
      refine goes_ Try.func59 (by kernel_rfl) rfl #[.slice Ao b2.length co, .slice A0_1 l0_1.length c0_1] (by rfl) rfl rfl (by (try simp only [List.map_toArray, List.map_cons, List.map_nil]); first | done | rfl) ?_
      with_reducible refine (slices_Equal_int_int.calls k _ _ b2 _ _ l0_1 t _ HO.out HO2.out (Kd.C_below HC.out HB.out) HCC.out HE.out).mono ?_
      rintro e w6 ⟨rfl, ⟨nd, rfl⟩⟩
      refine ⟨_, rfl, ?_⟩
      refine hK.out _ _ ⟨(blk_cell BA.out 0).trans rfl, (blk_cell BA.out 1).trans rfl⟩ (fun hHeld => ?_)
      clear hK K
      refine norm_ (a' := ?_) ?_ ?_
      rotate_left
      · show Act.put _ (some 22) _ = _
        simp only [Act.put, List.setIfInBounds_toArray, List.set_cons_zero, List.set_cons_succ, i64_w, i32_w]
        rfl
      refine pure_ (i := 9) (N := some 23) (v := ?_) (a' := ?_) #[true, true, true, true, true, true, true, true, true, true] rfl rfl (by kernel_rfl) (fun _ _ _ h => h) (Or.inl ⟨by rfl, ?_⟩) ?_ ?_
      rotate_left
      · intro w'
        go_simp
        with_reducible rfl
      rotate_left
      · simp only [Act.put, List.setIfInBounds_toArray, List.set_cons_zero, List.set_cons_succ, i64_w, i32_w]
        rfl
      refine done_ (by kernel_rfl) ?_
      have BA3 : Aside0 ((w5.drewN nd).heap[w.heap.size]? = some (.cells #[.int .i64 (m : Int), .slice A0_1 l0_1.length c0_1] 28 (0, 0))) := ⟨blk_drewN BA.out nd⟩
      have HB3 : Aside0 (Below w.heap.size w (w5.drewN nd)) := ⟨pw_below_drewN HB.out nd⟩
      clear hHeld BA HB HO HO2 e1 HS HE
      generalize w5.drewN nd = w7 at BA3 HB3 ⊢
      cases t
      · have hq := HQ2.out
        rw [if_neg (by decide)] at hq
        simp only [Option.some.injEq, Prod.mk.injEq] at hq
        obtain ⟨rfl, rfl⟩ := hq
        go_wp2
        go_ret2
        exact ⟨rfl, HB3.out⟩
      · have hq := HQ2.out
        rw [if_pos rfl, ← hd2] at hq
        have HQ3 := Aside0.mk hq
        clear hq HQ2
        go_wp2
        go_roundw
        case rel => first | exact ⟨i + 1, by go_num, by omega, by omega, HQ3, BA3, HB3⟩ | ((repeat apply Exists.intro); exact ⟨⟨i + 1, by go_num, by omega, by omega, HQ3, BA3, HB3⟩, rfl⟩)
        case measure => simp [intOf]; omega
    · have hq := HQ.out
      rw [show m - i = 0 by omega] at hq
      unfold symR at hq
      simp only [Option.some.injEq, Prod.mk.injEq] at hq
      obtain ⟨rfl, rfl⟩ := hq
      clear HQ
      go_wp2
      go_ret2
      exact ⟨rfl, HB.out⟩
end Go.Proofs.Ytnccomklpfbcpaa.P
