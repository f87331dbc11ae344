/- The walk of the program's areTurning: is a list one of 1 to MaxBits different turning cells of a board? -/
import Derived.Test.YtcilbmbgdcepgaaYFnExactWithBitsValuePx49
import Derived.Deep.RegionWith
namespace Go.Proofs.Ytcilbmbgdcepgaa.P
open Go.RowKit Go.Proofs.YtcilbmbgdcepgaaW.PrintWords Go.Proofs.YtcilbmbgdcepgaaW.PrintLast Go.Proofs.YtcilbmbgdcepgaaW.PrintMore
set_option linter.unusedVariables false
/-! ### impl_areTurning: function 61 -/
/-- Does a cell turn, as the program's IsTurning says? -/
def turnsI (l : List S71) (x : Int) : Bool := decide (impl_IsTurning.f (rd_T71 l x).f0 (rd_T71 l x).f1 = some true)
/-- The rest of a list, behind those of it that were looked at. -/
def goT (l : List S71) : List Int → List Int → Bool
  | _, [] => true
  | pre, x :: rest => decide (0 ≤ x ∧ x < l.length) && turnsI l x && !decide (x ∈ pre) && goT l (pre ++ [x]) rest
def areT (l : List S71) (bits : List Int) : Bool := decide (1 ≤ bits.length ∧ bits.length ≤ 5) && goT l [] bits
def impl_areTurning.f (k : Nat) (a0_0 : Int) (a0_1 : Int) (l0_2 : List S71) (l1 : List Int) : Option Bool := some (areT l0_2 l1)
theorem impl_areTurning.mono : ∀ a0 a1 a2 a3 k, LeO (impl_areTurning.f k a0 a1 a2 a3) (impl_areTurning.f (k + 1) a0 a1 a2 a3) := fun _ _ _ _ _ r h => h
theorem isTurning_some (a b : Int) : impl_IsTurning.f a b = some true ∨ impl_IsTurning.f a b = some false := by
  cases h : impl_IsTurning.f a b with
  | none =>
    exfalso
    have hc : ∃ t, impl_IsCell.f a b = some t := by
      unfold impl_IsCell.f
      repeat' (first | exact ⟨_, rfl⟩ | split)
    obtain ⟨t, ht⟩ := hc
    unfold impl_IsTurning.f at h
    rw [ht, Option.bind_some] at h
    split at h
    · split at h <;> simp at h
    · simp at h
  | some t => cases t <;> simp
theorem goT_at (l : List S71) (bits : List Int) (j : Nat) (h : j < bits.length) :
    goT l (bits.take j) (bits.drop j) = (decide (0 ≤ rd bits j ∧ rd bits j < l.length) && turnsI l (rd bits j) && !decide (rd bits j ∈ bits.take j) && goT l (bits.take (j + 1)) (bits.drop (j + 1))) := by
  have e : rd bits j = bits[j] := by simp [rd, h]
  rw [List.drop_eq_getElem_cons h, goT, ← e, List.take_succ_eq_append_getElem h, e]
set_option maxHeartbeats 4000000 in
set_option maxRecDepth 100000 in
theorem impl_areTurning.walk (r c : Int) (A : Option Addr) (cap : Nat) (l : List S71) (B : Option Addr) (cb : Nat) (bits : List Int) (w : World) (hC : Kd.C k71 w A l.length l) (hc : l.length ≤ cap) (hB : Kd.C (Kd.int .i64) w B bits.length bits) (hcb : bits.length ≤ cb)
    (h1 : 1 ≤ bits.length) (h5 : bits.length ≤ 5) (R : Bool) (hR : goT l [] bits = R) :
    Calls Try.prog 61 #[.agg #[.int .i64 r, .int .i64 c, .slice A l.length cap], .slice B bits.length cb] w fun e w' => e = .returned (.bool R) ∧ Below w.heap.size w w' := by
  have HC := Aside0.mk hC
  have HB := Aside0.mk hB
  have HR := Aside0.mk hR
  have hln : l.length ≤ 9223372036854775807 := hC.2.1
  have e1 : decide ((bits.length : Int) < 1) = false := by simp; omega
  have e5 : decide (5 < (bits.length : Int)) = false := by simp; omega
  have hb0 : ∀ o, Below w.heap.size w (w.alloc o) := fun o => (Below.refl _ _).alloc (Nat.le_refl _) _
  have HB0 := Aside0.mk (hb0 (.cells #[.int .i64 r, .int .i64 c, .slice A l.length cap] 24))
  have BK0 := Aside0.mk (blk_new w (.cells #[.int .i64 r, .int .i64 c, .slice A l.length cap] 24))
  clear hC hB hR hb0
  go_enter Try.func61, Try.ntmps61
  go_wp2_with fail
  go_loopw [19] (fun i wr => ∃ j : Nat, j ≤ bits.length ∧ i = .int .i64 j ∧ Aside0 (goT l (bits.take j) (bits.drop j) = R) ∧ Aside0 (wr.heap[w.heap.size]? = some (.cells #[.int .i64 r, .int .i64 c, .slice A l.length cap] 24 (0, 0))) ∧ Aside0 (Below w.heap.size w wr)) (fun i _ => bits.length - (intOf i).toNat)
  case atStart => exact ⟨0, Nat.zero_le _, rfl, ⟨by simpa using HR.out⟩, BK0, HB0⟩
  case round =>
    clear BK0 HB0 HR
    obtain ⟨j, hj, rfl, HR, BK, HBl⟩ := hrel
    have c2 : wr.cell? ⟨w.heap.size, 2, none⟩ = some (.slice A l.length cap) := (blk_cell BK.out 2).trans rfl
    by_cases hlt : j < bits.length
    · have hg := goT_at l bits j hlt
      rw [HR.out] at hg
      have HG := Aside0.mk hg
      clear HR hg
      obtain ⟨adB, hB', hxB⟩ : ∃ ad, B = some ad ∧ wr.cell? (ad.add j) = some (.int .i64 (rd bits j)) := by
        obtain ⟨ad, e, _⟩ := HB.out.2.2 (by omega)
        subst e
        have := Kd.foot_int HB.out (j : Int) (by omega) (by omega)
        rw [Int.toNat_natCast] at this
        exact ⟨ad, rfl, (HBl.out.cell (World.block_lt_of_cell? w _ this)).trans this⟩
      subst hB'
      obtain ⟨x, hx⟩ : ∃ x, x = rd bits j := ⟨_, rfl⟩
      rw [← hx] at HG hxB
      have HX := Aside0.mk hx
      clear hx
      by_cases hx0 : x < 0
      · have HF : Aside0 (R = false) := ⟨by rw [HG.out, decide_eq_false (by omega)]; simp⟩
        have b0 : decide (x < 0) = true := by simpa using hx0
        go_wp2_with fail
        go_ret
        exact ⟨by rw [HF.out]; rfl, HBl.out⟩
      by_cases hx1 : (l.length : Int) ≤ x
      · have HF : Aside0 (R = false) := ⟨by rw [HG.out, decide_eq_false (by omega)]; simp⟩
        have b0 : decide (x < 0) = false := by simpa using hx0
        have b1 : decide ((l.length : Int) ≤ x) = true := by simpa using hx1
        go_wp2_with fail
        go_ret
        exact ⟨by rw [HF.out]; rfl, HBl.out⟩
      have b0 : decide (x < 0) = false := by simpa using hx0
      have b1 : decide ((l.length : Int) ≤ x) = false := by simpa using hx1
      obtain ⟨ad, rfl, hc0, hc1⟩ := at_T71 HC.out x (by omega) (by omega)
      replace hc0 := (HBl.out.cell (World.block_lt_of_cell? w _ hc0)).trans hc0
      replace hc1 := (HBl.out.cell (World.block_lt_of_cell? w _ hc1)).trans hc1
      have ht := isTurning_some (rd_T71 l x).f0 (rd_T71 l x).f1
      have hdef : turnsI l x = decide (impl_IsTurning.f (rd_T71 l x).f0 (rd_T71 l x).f1 = some true) := rfl
      rw [decide_eq_true (by omega), hdef, Bool.true_and] at HG
      clear hdef
      generalize (rd_T71 l x).f0 = kx at *
      generalize (rd_T71 l x).f1 = sx at *
      rcases ht with ht | ht
      · have HT := Aside0.mk ht
        have HG2 : Aside0 (R = (!decide (x ∈ bits.take j) && goT l (bits.take (j + 1)) (bits.drop (j + 1)))) := ⟨by rw [HG.out, ht]; simp⟩
        clear ht HG
        go_wp2_with fail
        refine (impl_IsTurning.calls kx sx true _ HT.out).mono ?_
        rintro e w2 ⟨rfl, hb⟩
        have BK2 := Aside0.mk (blk_below BK.out hb)
        have HB2 := Aside0.mk (HBl.out.trans (hb.mono HBl.out.size))
        clear hb BK hc0 hc1 c2 hxB
        go_wp2_with fail
        go_loop [46] (fun i => ∃ m : Nat, m ≤ j ∧ i = .int .i64 m ∧ Aside0 (x ∉ bits.take m)) (fun i => j - (intOf i).toNat)
        case atStart => exact ⟨0, Nat.zero_le _, rfl, ⟨by simp⟩⟩
        case round =>
          obtain ⟨m, hm, rfl, HN⟩ := hrel
          by_cases hmj : m < j
          · have hxm : w2.cell? (adB.add m) = some (.int .i64 (rd bits m)) := by
              have := Kd.foot_int HB.out (m : Int) (by omega) (by omega)
              rw [Int.toNat_natCast] at this
              exact (HB2.out.cell (World.block_lt_of_cell? w _ this)).trans this
            have hin : rd bits m ∈ bits.take j := by
              have hmb : m < bits.length := by omega
              have e : rd bits m = bits[m] := by simp [rd, hmb]
              rw [e]
              exact List.mem_take_iff_getElem.2 ⟨m, by omega, rfl⟩
            have htk : bits.take (m + 1) = bits.take m ++ [rd bits m] := by
              have hmb : m < bits.length := by omega
              have e : rd bits m = bits[m] := by simp [rd, hmb]
              rw [List.take_succ_eq_append_getElem hmb, e]
            have HIN := Aside0.mk hin
            have HTK := Aside0.mk htk
            clear hin htk
            generalize rd bits m = y at *
            by_cases hxy : x = y
            · have HF : Aside0 (R = false) := ⟨by rw [HG2.out, hxy, decide_eq_true HIN.out]; simp⟩
              have b3 : (x == y) = true := by simpa using hxy
              clear hxy
              go_wp2_with fail
              go_ret
              exact ⟨by rw [HF.out]; rfl, HB2.out⟩
            · have HN2 : Aside0 (x ∉ bits.take (m + 1)) := ⟨by rw [HTK.out]; intro hh; rcases List.mem_append.1 hh with hh | hh; exact HN.out hh; exact hxy (List.mem_singleton.1 hh)⟩
              have b3 : (x == y) = false := by simpa using hxy
              clear hxy
              go_wp2_with fail
              go_round
              case rel => exact ⟨m + 1, by omega, by go_num, HN2⟩
              case measure => simp [intOf]; omega
          · obtain rfl : m = j := by omega
            have HR2 : Aside0 (goT l (bits.take (m + 1)) (bits.drop (m + 1)) = R) := ⟨by rw [HG2.out, decide_eq_false HN.out]; simp⟩
            go_wp2_with fail
            go_roundw
            case rel => exact ⟨m + 1, by omega, by go_num, HR2, BK2, HB2⟩
            case measure => simp [intOf]; omega
      · have HT := Aside0.mk ht
        have HF : Aside0 (R = false) := ⟨by rw [HG.out, ht]; simp⟩
        clear ht HG
        go_wp2_with fail
        refine (impl_IsTurning.calls kx sx false _ HT.out).mono ?_
        rintro e w2 ⟨rfl, hb⟩
        have HB2 := Aside0.mk (HBl.out.trans (hb.mono HBl.out.size))
        clear hb
        go_wp2_with fail
        go_ret
        exact ⟨by rw [HF.out]; rfl, HB2.out⟩
    · obtain rfl : j = bits.length := by omega
      have HF : Aside0 (R = true) := ⟨by have := HR.out; simp [goT] at this; exact this⟩
      go_wp2_with fail
      go_ret
      exact ⟨by rw [HF.out]; rfl, HBl.out⟩
set_option maxHeartbeats 4000000 in
set_option maxRecDepth 100000 in
theorem impl_areTurning.out (r c : Int) (A : Option Addr) (cap : Nat) (l : List S71) (B : Option Addr) (cb : Nat) (bits : List Int) (w : World) (h : ¬ (1 ≤ bits.length ∧ bits.length ≤ 5)) :
    Calls Try.prog 61 #[.agg #[.int .i64 r, .int .i64 c, .slice A l.length cap], .slice B bits.length cb] w fun e w' => e = .returned (.bool false) ∧ Below w.heap.size w w' := by
  have hb0 : ∀ o, Below w.heap.size w (w.alloc o) := fun o => (Below.refl _ _).alloc (Nat.le_refl _) _
  by_cases h1 : bits.length < 1
  · have e1 : decide ((bits.length : Int) < 1) = true := by simp; omega
    go_enter Try.func61, Try.ntmps61
    go_wp2_with fail
    go_ret
    exact ⟨rfl, hb0 _⟩
  · have e1 : decide ((bits.length : Int) < 1) = false := by simp; omega
    have e5 : decide (5 < (bits.length : Int)) = true := by simp; omega
    go_enter Try.func61, Try.ntmps61
    go_wp2_with fail
    go_ret
    exact ⟨rfl, hb0 _⟩
theorem impl_areTurning.calls (k : Nat) (a0_0 : Int) (a0_1 : Int) (A0_2 : Option Addr) (c0_2 : Nat) (l0_2 : List S71) (A1 : Option Addr) (c1 : Nat) (l1 : List Int) (r : Bool) (w : World) (hr0_2 : Kd.C k71 w A0_2 l0_2.length l0_2) (hc0_2 : l0_2.length ≤ c0_2) (hr1 : Kd.C (Kd.int .i64) w A1 l1.length l1) (hc1 : l1.length ≤ c1) (h : impl_areTurning.f k a0_0 a0_1 l0_2 l1 = some r) :
    Calls Try.prog 61 #[.agg #[.int .i64 a0_0, .int .i64 a0_1, .slice A0_2 l0_2.length c0_2], .slice A1 l1.length c1] w fun e w' => e = .returned (.bool r) ∧ Below w.heap.size w w' := by
  unfold impl_areTurning.f areT at h
  obtain rfl := Option.some.inj h
  by_cases hc : 1 ≤ l1.length ∧ l1.length ≤ 5
  · rw [decide_eq_true hc, Bool.true_and]
    exact impl_areTurning.walk a0_0 a0_1 _ _ _ _ _ _ w hr0_2 hc0_2 hr1 hc1 hc.1 hc.2 _ rfl
  · rw [decide_eq_false hc, Bool.false_and]
    exact impl_areTurning.out a0_0 a0_1 _ _ l0_2 _ _ l1 w hc
end Go.Proofs.Ytcilbmbgdcepgaa.P
