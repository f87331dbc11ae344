/- FnExactIsCounterState: the program and the reference agree for all arguments: the row over the pure statement. -/
import Derived.Test.YtbcphkblieeemaaRows
import Derived.Test.YtbcphkblieeemaaPx21
import Derived.Test.YtbcphkblieeemaaOp
import Derived.WalkKit
import Derived.ProofKit
import Derived.OpenShut
import Derived.ShutString
import Derived.ChangeOld
import Derived.Below
import Derived.SizedLaws
namespace Go.Proofs.Ytbcphkblieeemaa.fnExactIsCounterState
open Go.ChangeShapes Go.WideShapes Go.ChangeAt Go.RowKit
open Go.ChangeMaps (open_string shut_string)
open Go.Proofs.Ytbcphkblieeemaa.Op
set_option linter.unusedVariables false
def Pure : Prop := ∀ (l0 : (List P.S57)) (a1_0 : Int) (l1_1 : (List Int)), (WList (fun x : P.S57 => (WNum .i64) x.f0 ∧ (WNum .i64) x.f1 ∧ (WNum .i64) x.f2)) l0 → (WNum .i64) a1_0 → (WList (WNum .i64)) l1_1 → ∃ k, P.laws_FnExactIsCounterState.f k l0 a1_0 l1_1 = some true
theorem own : ownKnob Try.prog.godebug = none := by kernel_rfl
theorem laidOut : laidOutB Try.prog = true := by kernel_rfl
theorem ty3 : Opens Try.prog 3 (Go.Proofs.YtbcphkblieeemaaW.PrintWords.Kd.int .i64) (WNum .i64) := opens_int Try.underlying3
theorem ty57 : Opens Try.prog 57 P.k57 (fun x : P.S57 => (WNum .i64) x.f0 ∧ (WNum .i64) x.f1 ∧ (WNum .i64) x.f2) := opens_iso (fun x : P.S57 => (x.f0, x.f1, x.f2)) (fun a => ⟨a.1, a.2.1, a.2.2⟩) (fun _ => rfl) (opens_three Try.underlying57 (by kernel_rfl) (by kernel_rfl) (by kernel_rfl) (by kernel_rfl) (by kernel_rfl) (by kernel_rfl) (by kernel_rfl) ty3 ty3 ty3)
theorem ty22 : Opens Try.prog 22 (Go.Proofs.YtbcphkblieeemaaW.PrintWords.Kd.slice 57 P.k57) (WList (fun x : P.S57 => (WNum .i64) x.f0 ∧ (WNum .i64) x.f1 ∧ (WNum .i64) x.f2)) := opens_slice 57 Try.underlying22 (by kernel_rfl) ty57
theorem ty23 : Opens Try.prog 23 (Go.Proofs.YtbcphkblieeemaaW.PrintWords.Kd.slice 3 (Go.Proofs.YtbcphkblieeemaaW.PrintWords.Kd.int .i64)) (WList (WNum .i64)) := opens_slice 3 Try.underlying23 (by kernel_rfl) ty3
theorem tw25 : Opens Try.prog 25 (Go.Proofs.YtbcphkblieeemaaW.PrintWords.Kd.pair (Go.Proofs.YtbcphkblieeemaaW.PrintWords.Kd.int .i64) (Go.Proofs.YtbcphkblieeemaaW.PrintWords.Kd.slice 3 (Go.Proofs.YtbcphkblieeemaaW.PrintWords.Kd.int .i64))) (fun x : Int × (List Int) => (WNum .i64) x.1 ∧ (WList (WNum .i64)) x.2) := opens_two Try.underlying25 (by kernel_rfl) (by kernel_rfl) (by kernel_rfl) (by kernel_rfl) (by kernel_rfl) ty3 ty23
set_option maxRecDepth 100000 in
theorem lifted (pure : Pure) (os : Os) (started : os.Started) (H : Type) (enc : TypeId × Value → H) :
    ReturnsInHanded {} Try.checked os 3 .any (Rows.fnExactIsCounterStateSpec.pre6 enc Try.prog Try.f3 Rows.fnExactIsCounterStateRow.domain false) (Rows.fnExactIsCounterStateSpec.post enc Try.prog Try.f3 false true false false) := by
  refine returnsInHanded_of_change_sized (C := Try.checked) own started (by kernel_rfl) Try.func3
    (ChangeSpec.witness6 (enc := enc) (C := Try.checked) false ⟨#[], #[.slice none 0 0, .agg #[.int .i64 0, .slice none 0 0]], []⟩ 8 (by kernel_rfl) (by kernel_rfl) (by kernel_rfl) (by kernel_rfl)) ?_
  intro W base args ds gs before hval0 hW hcnd hsz0 _
  have hsz : (DataW.weightsEach Try.prog (Try.f3.params.toList ++ Rows.fnExactIsCounterStateSpec.plain.varTypes Try.prog) (ds ++ gs)).all (· ≤ reachBytes) = true := hsz0
  have hval : ∀ (j : Nat) t v, Try.f3.params[j]? = some t → args[j]? = some v → Value.okWide Try.prog W .any base t v := hval0
  have hW' := hW
  obtain ⟨p, q, hA0, hV, rfl, hfz, hnd⟩ := hW
  have hA : DataW.TrodAll enc Try.prog W 0 (fun _ => true) true Try.f3.params.toList args.toList ds p := hA0
  rw [Try.params3] at hA hval hsz
  obtain ⟨v0, vs0, d0, ds0, p0, q0, hargs, rfl, rfl, h0, r0⟩ := trodAll_cons hA
  obtain ⟨v1, vs1, d1, ds1, p1, q1, rfl, rfl, rfl, h1, r1⟩ := trodAll_cons r0
  obtain ⟨rfl, rfl, rfl⟩ := trodAll_nil r1
  obtain rfl : args = #[v0, v1] := by cases args; simp_all
  obtain ⟨rfl, rfl⟩ := trodVars_none hV
  have k0 := h0
  have lt0 : ∀ x ∈ p0, x.block < W.heap.size := by obtain ⟨m, hm⟩ := k0; exact DataW.trod_lt m _ _ _ hm
  obtain ⟨A0, len0, cap0, rfl⟩ := okWide_slice Try.underlying22 (hval 0 22 v0 rfl rfl)
  obtain ⟨l0, rfl, hc0, hC0, w0⟩ := open_arg_slice ty22 h0
  have k1 := h1
  have lt1 : ∀ x ∈ p1, x.block < W.heap.size := by obtain ⟨m, hm⟩ := k1; exact DataW.trod_lt m _ _ _ hm
  obtain ⟨cs1, rfl, _⟩ := okWide_struct Try.underlying25 (hval 1 25 v1 rfl rfl)
  obtain ⟨csl1⟩ := cs1
  obtain ⟨fu1, hf1⟩ := h1
  obtain ⟨⟨a1_0, l1_1⟩, ⟨x1_0, x1_1, ex1, e1_0, ⟨A1_1, c1_1, e1_1, hc1_1, hC1_1⟩⟩, ⟨w1_0, w1_1⟩⟩ := tw25 hf1
  replace e1_0 : x1_0 = [Value.int .i64 a1_0] := e1_0
  replace e1_1 : x1_1 = [Value.slice A1_1 l1_1.length c1_1] := e1_1
  replace hc1_1 : l1_1.length ≤ c1_1 := hc1_1
  replace hC1_1 : Go.Proofs.YtbcphkblieeemaaW.PrintWords.Kd.C (Go.Proofs.YtbcphkblieeemaaW.PrintWords.Kd.int .i64) W A1_1 l1_1.length l1_1 := hC1_1
  replace w1_0 : (WNum .i64) a1_0 := w1_0
  replace w1_1 : (WList (WNum .i64)) l1_1 := w1_1
  subst e1_0 e1_1
  have ex1' : csl1 = [.int .i64 a1_0, .slice A1_1 l1_1.length c1_1] := ex1
  subst ex1'
  clear hA0 hval0 hsz0 hsz
  obtain ⟨k, hk⟩ := pure l0 a1_0 l1_1 w0 w1_0 w1_1
  refine (P.laws_FnExactIsCounterState.calls k _ _ l0 a1_0 _ _ l1_1 true W hC0 hc0 hC1_1 hc1_1 hk).mono fun e W' ⟨he, bel⟩ => ?_
  subst he
  exact ⟨_, rfl, _, _, _, [], _, [], hW', trodAll_mk1 (shut_bool Try.underlying4 _), (trodAll_cons_mk (Below.trod laidOut (by kernel_rfl) (of_decide_eq_true (by kernel_rfl)) k0 bel lt0) (trodAll_cons_mk (Below.trod laidOut (by kernel_rfl) (of_decide_eq_true (by kernel_rfl)) k1 bel lt1) trodAll_mk0)), rfl, bel.frame _, fun h => by cases h⟩
theorem over (pure : Pure) : Rows.fnExactIsCounterStateRow.holds Try.pinned (OpenSpec.ofChange Rows.fnExactIsCounterStateSpec) :=
  OpenClaim.holds_of_wide 3 Try.f3 rfl rfl rfl rfl rfl rfl rfl ⟨rfl, rfl, rfl, rfl, rfl⟩ rfl rfl rfl rfl rfl (by kernel_rfl) Try.func3 (by kernel_rfl)
    (of_decide_eq_true (by kernel_rfl)) (by unfold Func.isWrapper; first | (rw [if_pos (by decide +kernel)]; kernel_rfl) | (rw [if_neg (by decide +kernel)]; exact ⟨rfl, rfl⟩))
    (fun os started H enc _ => lifted pure os started H enc)
end Go.Proofs.Ytbcphkblieeemaa.fnExactIsCounterState
