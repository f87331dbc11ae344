/- FnExactStateAfter: the program and the reference agree for all arguments: the row over the pure statement. -/
import Derived.Test.YtkfedkckakegjaaRows
import Derived.Test.YtkfedkckakegjaaPx21
import Derived.Test.YtkfedkckakegjaaOp
import Derived.WalkKit
import Derived.ProofKit
import Derived.OpenShut
import Derived.ShutString
import Derived.ChangeOld
import Derived.Below
import Derived.SizedLaws
namespace Go.Proofs.Ytkfedkckakegjaa.fnExactStateAfter
open Go.ChangeShapes Go.WideShapes Go.ChangeAt Go.RowKit
open Go.ChangeMaps (open_string shut_string)
open Go.Proofs.Ytkfedkckakegjaa.Op
set_option linter.unusedVariables false
def Pure : Prop := ∀ (a0_0 : Int) (l0_1 : (List (List Int))) (l0_2 : (List Int)) (l1 : (List Int)), (WNum .i64) a0_0 → (WList (WList (WNum .i64))) l0_1 → (WList (WNum .i64)) l0_2 → (WList (WNum .i64)) l1 → ∃ k, P.laws_FnExactStateAfter.f k a0_0 l0_1 l0_2 l1 = some true
theorem own : ownKnob Try.prog.godebug = none := by kernel_rfl
theorem laidOut : laidOutB Try.prog = true := by kernel_rfl
theorem ty3 : Opens Try.prog 3 (Go.Proofs.YtkfedkckakegjaaW.PrintWords.Kd.int .i64) (WNum .i64) := opens_int Try.underlying3
theorem ty23 : Opens Try.prog 23 (Go.Proofs.YtkfedkckakegjaaW.PrintWords.Kd.slice 3 (Go.Proofs.YtkfedkckakegjaaW.PrintWords.Kd.int .i64)) (WList (WNum .i64)) := opens_slice 3 Try.underlying23 (by kernel_rfl) ty3
theorem ty22 : Opens Try.prog 22 (Go.Proofs.YtkfedkckakegjaaW.PrintWords.Kd.slice 23 (Go.Proofs.YtkfedkckakegjaaW.PrintWords.Kd.slice 3 (Go.Proofs.YtkfedkckakegjaaW.PrintWords.Kd.int .i64))) (WList (WList (WNum .i64))) := opens_slice 23 Try.underlying22 (by kernel_rfl) ty23
theorem tw25 : Opens Try.prog 25 (Go.Proofs.YtkfedkckakegjaaW.PrintWords.Kd.pair (Go.Proofs.YtkfedkckakegjaaW.PrintWords.Kd.int .i64) (Go.Proofs.YtkfedkckakegjaaW.PrintWords.Kd.pair (Go.Proofs.YtkfedkckakegjaaW.PrintWords.Kd.slice 23 (Go.Proofs.YtkfedkckakegjaaW.PrintWords.Kd.slice 3 (Go.Proofs.YtkfedkckakegjaaW.PrintWords.Kd.int .i64))) (Go.Proofs.YtkfedkckakegjaaW.PrintWords.Kd.slice 3 (Go.Proofs.YtkfedkckakegjaaW.PrintWords.Kd.int .i64)))) (fun x : Int × (List (List Int)) × (List Int) => (WNum .i64) x.1 ∧ (WList (WList (WNum .i64))) x.2.1 ∧ (WList (WNum .i64)) x.2.2) := opens_three Try.underlying25 (by kernel_rfl) (by kernel_rfl) (by kernel_rfl) (by kernel_rfl) (by kernel_rfl) (by kernel_rfl) (by kernel_rfl) ty3 ty22 ty23
set_option maxRecDepth 100000 in
theorem lifted (pure : Pure) (os : Os) (started : os.Started) (H : Type) (enc : TypeId × Value → H) :
    ReturnsInHanded {} Try.checked os 3 .any (Rows.fnExactStateAfterSpec.pre6 enc Try.prog Try.f3 Rows.fnExactStateAfterRow.domain false) (Rows.fnExactStateAfterSpec.post enc Try.prog Try.f3 false true false false) := by
  refine returnsInHanded_of_change_sized (C := Try.checked) own started (by kernel_rfl) Try.func3
    (ChangeSpec.witness6 (enc := enc) (C := Try.checked) false ⟨#[], #[.agg #[.int .i64 0, .slice none 0 0, .slice none 0 0], .slice none 0 0], []⟩ 8 (by kernel_rfl) (by kernel_rfl) (by kernel_rfl) (by kernel_rfl)) ?_
  intro W base args ds gs before hval0 hW hcnd hsz0 _
  have hsz : (DataW.weightsEach Try.prog (Try.f3.params.toList ++ Rows.fnExactStateAfterSpec.plain.varTypes Try.prog) (ds ++ gs)).all (· ≤ reachBytes) = true := hsz0
  have hval : ∀ (j : Nat) t v, Try.f3.params[j]? = some t → args[j]? = some v → Value.okWide Try.prog W .any base t v := hval0
  have hW' := hW
  obtain ⟨p, q, hA0, hV, rfl, hfz, hnd⟩ := hW
  have hA : DataW.TrodAll enc Try.prog W 0 (fun _ => true) true Try.f3.params.toList args.toList ds p := hA0
  rw [Try.params3] at hA hval hsz
  obtain ⟨v0, vs0, d0, ds0, p0, q0, hargs, rfl, rfl, h0, r0⟩ := trodAll_cons hA
  obtain ⟨v1, vs1, d1, ds1, p1, q1, rfl, rfl, rfl, h1, r1⟩ := trodAll_cons r0
  obtain ⟨rfl, rfl, rfl⟩ := trodAll_nil r1
  obtain rfl : args = #[v0, v1] := by cases args; simp_all
  obtain ⟨rfl, rfl⟩ := trodVars_none hV
  have k0 := h0
  have lt0 : ∀ x ∈ p0, x.block < W.heap.size := by obtain ⟨m, hm⟩ := k0; exact DataW.trod_lt m _ _ _ hm
  obtain ⟨cs0, rfl, _⟩ := okWide_struct Try.underlying25 (hval 0 25 v0 rfl rfl)
  obtain ⟨csl0⟩ := cs0
  obtain ⟨fu0, hf0⟩ := h0
  obtain ⟨⟨a0_0, l0_1, l0_2⟩, ⟨x0_0, xr0, ex0, e0_0, ⟨x0_1, x0_2, er0, ⟨A0_1, c0_1, e0_1, hc0_1, hC0_1⟩, ⟨A0_2, c0_2, e0_2, hc0_2, hC0_2⟩⟩⟩, ⟨w0_0, w0_1, w0_2⟩⟩ := tw25 hf0
  replace e0_0 : x0_0 = [Value.int .i64 a0_0] := e0_0
  replace e0_1 : x0_1 = [Value.slice A0_1 l0_1.length c0_1] := e0_1
  replace hc0_1 : l0_1.length ≤ c0_1 := hc0_1
  replace hC0_1 : Go.Proofs.YtkfedkckakegjaaW.PrintWords.Kd.C (Go.Proofs.YtkfedkckakegjaaW.PrintWords.Kd.slice 3 (Go.Proofs.YtkfedkckakegjaaW.PrintWords.Kd.int .i64)) W A0_1 l0_1.length l0_1 := hC0_1
  replace e0_2 : x0_2 = [Value.slice A0_2 l0_2.length c0_2] := e0_2
  replace hc0_2 : l0_2.length ≤ c0_2 := hc0_2
  replace hC0_2 : Go.Proofs.YtkfedkckakegjaaW.PrintWords.Kd.C (Go.Proofs.YtkfedkckakegjaaW.PrintWords.Kd.int .i64) W A0_2 l0_2.length l0_2 := hC0_2
  replace w0_0 : (WNum .i64) a0_0 := w0_0
  replace w0_1 : (WList (WList (WNum .i64))) l0_1 := w0_1
  replace w0_2 : (WList (WNum .i64)) l0_2 := w0_2
  subst e0_1 e0_2 er0 e0_0 ex0
  have k1 := h1
  have lt1 : ∀ x ∈ p1, x.block < W.heap.size := by obtain ⟨m, hm⟩ := k1; exact DataW.trod_lt m _ _ _ hm
  obtain ⟨A1, len1, cap1, rfl⟩ := okWide_slice Try.underlying23 (hval 1 23 v1 rfl rfl)
  obtain ⟨l1, rfl, hc1, hC1, w1⟩ := open_arg_slice ty23 h1
  clear hA0 hval0 hsz0 hsz
  obtain ⟨k, hk⟩ := pure a0_0 l0_1 l0_2 l1 w0_0 w0_1 w0_2 w1
  refine (P.laws_FnExactStateAfter.calls k a0_0 _ _ l0_1 _ _ l0_2 _ _ l1 true W hC0_1 hc0_1 hC0_2 hc0_2 hC1 hc1 hk).mono fun e W' ⟨he, bel⟩ => ?_
  subst he
  exact ⟨_, rfl, _, _, _, [], _, [], hW', trodAll_mk1 (shut_bool Try.underlying4 _), (trodAll_cons_mk (Below.trod laidOut (by kernel_rfl) (of_decide_eq_true (by kernel_rfl)) k0 bel lt0) (trodAll_cons_mk (Below.trod laidOut (by kernel_rfl) (of_decide_eq_true (by kernel_rfl)) k1 bel lt1) trodAll_mk0)), rfl, bel.frame _, fun h => by cases h⟩
theorem over (pure : Pure) : Rows.fnExactStateAfterRow.holds Try.pinned (OpenSpec.ofChange Rows.fnExactStateAfterSpec) :=
  OpenClaim.holds_of_wide 3 Try.f3 rfl rfl rfl rfl rfl rfl rfl ⟨rfl, rfl, rfl, rfl, rfl⟩ rfl rfl rfl rfl rfl (by kernel_rfl) Try.func3 (by kernel_rfl)
    (of_decide_eq_true (by kernel_rfl)) (by unfold Func.isWrapper; first | (rw [if_pos (by decide +kernel)]; kernel_rfl) | (rw [if_neg (by decide +kernel)]; exact ⟨rfl, rfl⟩))
    (fun os started H enc _ => lifted pure os started H enc)
end Go.Proofs.Ytkfedkckakegjaa.fnExactStateAfter
