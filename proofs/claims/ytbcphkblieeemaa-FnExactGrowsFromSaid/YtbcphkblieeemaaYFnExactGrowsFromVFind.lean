/- The walk of spec.ctFind (printed by gen_run.py): the first pair of states. -/
import Derived.Test.YtbcphkblieeemaaYFnExactGrowsFromVPair
namespace Go.Proofs.Ytbcphkblieeemaa.P
open Go.RowKit Go.Proofs.YtbcphkblieeemaaW.PrintWords Go.Proofs.YtbcphkblieeemaaW.PrintLast Go.Proofs.YtbcphkblieeemaaW.PrintMore Go.Proofs.Ytbcphkblieeemaa.Own Go.Proofs.Ytbcphkblieeemaa.A
set_option linter.unusedVariables false
set_option linter.unusedSimpArgs false
set_option maxHeartbeats 4000000 in
set_option maxRecDepth 100000 in
theorem ctFind_own (A0 : Option Addr) (c0 : Nat) (l0 : List S55) (g cs cz nv : Nat) (ad adz : Addr) (S1 : List S31) (Z1 : List Int) (bf : Bool) (gr : Bool) (w : World) (hbox : w.heap[g]? = some (.cells #[.slice (some ad) S1.length cs, .slice (some adz) Z1.length cz, .bool bf] 70 (0, 0))) (hS : Kd.C k31 w (some ad) S1.length S1) (hZ : Kd.C (Kd.int .i64) w (some adz) Z1.length Z1) (hr0 : Kd.C k55 w A0 l0.length l0) (hc0 : l0.length ≤ c0) (hso : ∀ s ∈ S1, StOk l0 s.f0 s.f1 ∧ s.f1.length = nv) (hzl : Z1.length = S1.length) (hb20 : S1.length ≤ 2001) (r1 r2 : Int) (hf : findK l0 S1 Z1 gr S1.length 0 = (r1, r2)) :
    Calls Try.prog 54 #[.slice A0 l0.length c0, .pointer (some ⟨g, 0, none⟩), .bool gr] w fun e w' => e = .returned (.tuple #[.int .i64 r1, .int .i64 r2]) ∧ Below w.heap.size w w' := by
  have hu := Try.underlying31
  have hu70 := Try.underlying70
  have s0 := (blk_cell hbox 0).trans rfl
  have H1 := Aside0.mk hr0
  have HC1 := Aside0.mk hc0
  have BX := Aside0.mk hbox
  have HS := Aside0.mk hS
  have HZ := Aside0.mk hZ
  have HSO := Aside0.mk hso
  have HZL := Aside0.mk hzl
  have HF := Aside0.mk hf
  clear hr0 hc0 hbox hS hZ hso hzl hf
  go_enter Try.func54, Try.ntmps54
  go_wp2
  go_loopw [15] (fun v15 wr => ∃ (k : Nat), v15 = .int .i64 k ∧ k ≤ S1.length ∧ Aside0 (findK l0 S1 Z1 gr (S1.length - k) k = (r1, r2)) ∧ Aside0 (Below w.heap.size w wr)) (fun k _ => S1.length - (intOf k).toNat)
  case atStart => exact ⟨0, rfl, Nat.zero_le _, ⟨by rw [Nat.sub_zero]; exact HF.out⟩, ⟨Below.refl _ _⟩⟩
  case round =>
    clear HF s0
    obtain ⟨k, rfl, hk, HF, HB⟩ := hrel
    by_cases hlt : k < S1.length
    · obtain ⟨d, hd⟩ : ∃ d, S1.length - k = d + 1 := ⟨S1.length - k - 1, by omega⟩
      have hf := HF.out
      rw [hd, findK] at hf
      obtain ⟨fi, hfi⟩ : ∃ t, t = findI (fun i => pairB l0 S1 Z1 gr i k) k 0 := ⟨_, rfl⟩
      rw [← hfi] at hf
      have FI := Aside0.mk hfi
      replace HF := Aside0.mk hf
      obtain ⟨wL, rfl⟩ : ∃ x, x = wr := ⟨wr, rfl⟩
      have hk20 : k ≤ 2001 := by omega
      have hdk : decide ((k : Int) < (S1.length : Int)) = true := decide_eq_true (by omega)
      have HD := Aside0.mk hd
      clear hf hfi hd
      go_wp2
      go_loopw [9] (fun v9 wr => ∃ (i : Nat), v9 = .int .i64 i ∧ i ≤ k ∧ Aside0 (findI (fun i => pairB l0 S1 Z1 gr i k) (k - i) i = fi) ∧ Aside0 (Below w.heap.size w wr)) (fun i _ => k - (intOf i).toNat)
      case atStart => exact ⟨0, rfl, Nat.zero_le _, ⟨by rw [Nat.sub_zero]; exact FI.out.symm⟩, HB⟩
      case round =>
        clear HB FI
        obtain ⟨i, rfl, hi, FI, HB⟩ := hrel
        by_cases hlt2 : i < k
        · obtain ⟨e, he⟩ : ∃ e, k - i = e + 1 := ⟨k - i - 1, by omega⟩
          have hfi := FI.out
          rw [he, findI] at hfi
          obtain ⟨pb, hpb⟩ : ∃ t, t = pairB l0 S1 Z1 gr i k := ⟨_, rfl⟩
          rw [← hpb] at hfi
          have PB := Aside0.mk hpb
          replace FI := Aside0.mk hfi
          have HE := Aside0.mk he
          clear hfi hpb he
          go_wp2_with fail
          refine (ctPair_own A0 c0 l0 g cs cz nv ad adz S1 Z1 bf i k gr _ (blk_below BX.out HB.out) (Kd.C_below HS.out HB.out) (Kd.C_below HZ.out HB.out) (Kd.C_below H1.out HB.out) HC1.out HSO.out HZL.out (by omega) hlt hb20).mono ?_
          rintro e_ w1 ⟨rfl, hb⟩
          rw [← PB.out]
          replace HB := Aside0.mk (below_step HB.out hb)
          clear hb
          cases pb with
          | true =>
            have hfi := FI.out
            rw [if_pos rfl] at hfi
            subst hfi
            have hf := HF.out
            simp only [Prod.mk.injEq] at hf
            obtain ⟨rfl, rfl⟩ := hf
            go_wp2
            go_ret2
            exact ⟨rfl, HB.out⟩
          | false =>
            have hfi := FI.out
            rw [if_neg (by simp)] at hfi
            have FI2 : Aside0 (findI (fun i => pairB l0 S1 Z1 gr i k) (k - (i + 1)) (i + 1) = fi) := ⟨by rw [show k - (i + 1) = e by have := HE.out; omega]; exact hfi⟩
            clear hfi
            go_wp2
            go_roundw
            case rel => first | exact ⟨i + 1, by go_num, by omega, FI2, HB⟩ | (repeat (first | exact ⟨⟨i + 1, by go_num, by omega, FI2, HB⟩, rfl⟩ | refine ⟨_, ?_⟩))
            case measure => simp [intOf]; omega
        · obtain rfl : i = k := by omega
          have hfi := FI.out
          rw [Nat.sub_self, findI] at hfi
          subst hfi
          have hf := HF.out
          simp only at hf
          have HF2 : Aside0 (findK l0 S1 Z1 gr (S1.length - (i + 1)) (i + 1) = (r1, r2)) := ⟨by rw [show S1.length - (i + 1) = d by have := HD.out; omega]; exact hf⟩
          clear hf
          go_wp2
          go_roundw
          case rel => first | exact ⟨i + 1, by go_num, by omega, HF2, HB⟩ | (repeat (first | exact ⟨⟨i + 1, by go_num, by omega, HF2, HB⟩, rfl⟩ | refine ⟨_, ?_⟩))
          case measure => simp [intOf]; omega
    · obtain rfl : k = S1.length := by omega
      have hf := HF.out
      rw [Nat.sub_self, findK] at hf
      simp only [Prod.mk.injEq] at hf
      obtain ⟨rfl, rfl⟩ := hf
      go_wp2
      go_ret2
      exact ⟨rfl, HB.out⟩
end Go.Proofs.Ytbcphkblieeemaa.P
