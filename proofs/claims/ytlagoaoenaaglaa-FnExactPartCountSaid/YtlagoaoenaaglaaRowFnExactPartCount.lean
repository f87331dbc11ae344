/- FnExactPartCount: the program and the reference agree for all arguments: the row over the pure statement. -/
import Derived.Test.YtlagoaoenaaglaaRows
import Derived.Test.YtlagoaoenaaglaaPx53
import Derived.Test.YtlagoaoenaaglaaOp
import Derived.WalkKit
import Derived.ProofKit
import Derived.OpenShut
import Derived.ShutString
import Derived.ChangeOld
import Derived.Below
import Derived.SizedLaws
namespace Go.Proofs.Ytlagoaoenaaglaa.fnExactPartCount
open Go.ChangeShapes Go.WideShapes Go.ChangeAt Go.RowKit
open Go.ChangeMaps (open_string shut_string)
open Go.Proofs.Ytlagoaoenaaglaa.Op
set_option linter.unusedVariables false
def Pure : Prop := ∀ (a0_0 : Int) (a0_1 : Int) (l0_2 : (List P.S73)), (WNum .i64) a0_0 → (WNum .i64) a0_1 → (WList (fun x : P.S73 => (WNum .i64) x.f0 ∧ (WNum .i64) x.f1)) l0_2 → ∃ k, P.laws_FnExactPartCount.f k a0_0 a0_1 l0_2 = some true
theorem own : ownKnob Try.prog.godebug = none := by kernel_rfl
theorem laidOut : laidOutB Try.prog = true := by kernel_rfl
theorem ty3 : Opens Try.prog 3 (Go.Proofs.YtlagoaoenaaglaaW.PrintWords.Kd.int .i64) (WNum .i64) := opens_int Try.underlying3
theorem ty73 : Opens Try.prog 73 P.k73 (fun x : P.S73 => (WNum .i64) x.f0 ∧ (WNum .i64) x.f1) := opens_iso (fun x : P.S73 => (x.f0, x.f1)) (fun a => ⟨a.1, a.2⟩) (fun _ => rfl) (opens_two Try.underlying73 (by kernel_rfl) (by kernel_rfl) (by kernel_rfl) (by kernel_rfl) (by kernel_rfl) ty3 ty3)
theorem ty44 : Opens Try.prog 44 (Go.Proofs.YtlagoaoenaaglaaW.PrintWords.Kd.slice 73 P.k73) (WList (fun x : P.S73 => (WNum .i64) x.f0 ∧ (WNum .i64) x.f1)) := opens_slice 73 Try.underlying44 (by kernel_rfl) ty73
theorem tw46 : Opens Try.prog 46 (Go.Proofs.YtlagoaoenaaglaaW.PrintWords.Kd.pair (Go.Proofs.YtlagoaoenaaglaaW.PrintWords.Kd.int .i64) (Go.Proofs.YtlagoaoenaaglaaW.PrintWords.Kd.pair (Go.Proofs.YtlagoaoenaaglaaW.PrintWords.Kd.int .i64) (Go.Proofs.YtlagoaoenaaglaaW.PrintWords.Kd.slice 73 P.k73))) (fun x : Int × Int × (List P.S73) => (WNum .i64) x.1 ∧ (WNum .i64) x.2.1 ∧ (WList (fun x : P.S73 => (WNum .i64) x.f0 ∧ (WNum .i64) x.f1)) x.2.2) := opens_three Try.underlying46 (by kernel_rfl) (by kernel_rfl) (by kernel_rfl) (by kernel_rfl) (by kernel_rfl) (by kernel_rfl) (by kernel_rfl) ty3 ty3 ty44
set_option maxRecDepth 100000 in
theorem lifted (pure : Pure) (os : Os) (started : os.Started) (H : Type) (enc : TypeId × Value → H) :
    ReturnsInHanded {} Try.checked os 8 .any (Rows.fnExactPartCountSpec.pre6 enc Try.prog Try.f8 Rows.fnExactPartCountRow.domain false) (Rows.fnExactPartCountSpec.post enc Try.prog Try.f8 false true false false) := by
  refine returnsInHanded_of_change_sized (C := Try.checked) own started (by kernel_rfl) Try.func8
    (ChangeSpec.witness6 (enc := enc) (C := Try.checked) false ⟨#[], #[.agg #[.int .i64 0, .int .i64 0, .slice none 0 0]], []⟩ 8 (by kernel_rfl) (by kernel_rfl) (by kernel_rfl) (by kernel_rfl)) ?_
  intro W base args ds gs before hval0 hW hcnd hsz0 _
  have hsz : (DataW.weightsEach Try.prog (Try.f8.params.toList ++ Rows.fnExactPartCountSpec.plain.varTypes Try.prog) (ds ++ gs)).all (· ≤ reachBytes) = true := hsz0
  have hval : ∀ (j : Nat) t v, Try.f8.params[j]? = some t → args[j]? = some v → Value.okWide Try.prog W .any base t v := hval0
  have hW' := hW
  obtain ⟨p, q, hA0, hV, rfl, hfz, hnd⟩ := hW
  have hA : DataW.TrodAll enc Try.prog W 0 (fun _ => true) true Try.f8.params.toList args.toList ds p := hA0
  rw [Try.params8] at hA hval hsz
  obtain ⟨v0, vs0, d0, ds0, p0, q0, hargs, rfl, rfl, h0, r0⟩ := trodAll_cons hA
  obtain ⟨rfl, rfl, rfl⟩ := trodAll_nil r0
  obtain rfl : args = #[v0] := by cases args; simp_all
  obtain ⟨rfl, rfl⟩ := trodVars_none hV
  have k0 := h0
  have lt0 : ∀ x ∈ p0, x.block < W.heap.size := by obtain ⟨m, hm⟩ := k0; exact DataW.trod_lt m _ _ _ hm
  obtain ⟨cs0, rfl, _⟩ := okWide_struct Try.underlying46 (hval 0 46 v0 rfl rfl)
  obtain ⟨csl0⟩ := cs0
  obtain ⟨fu0, hf0⟩ := h0
  obtain ⟨⟨a0_0, a0_1, l0_2⟩, ⟨x0_0, xr0, ex0, e0_0, ⟨x0_1, x0_2, er0, e0_1, ⟨A0_2, c0_2, e0_2, hc0_2, hC0_2⟩⟩⟩, ⟨w0_0, w0_1, w0_2⟩⟩ := tw46 hf0
  replace e0_0 : x0_0 = [Value.int .i64 a0_0] := e0_0
  replace e0_1 : x0_1 = [Value.int .i64 a0_1] := e0_1
  replace e0_2 : x0_2 = [Value.slice A0_2 l0_2.length c0_2] := e0_2
  replace hc0_2 : l0_2.length ≤ c0_2 := hc0_2
  replace hC0_2 : Go.Proofs.YtlagoaoenaaglaaW.PrintWords.Kd.C P.k73 W A0_2 l0_2.length l0_2 := hC0_2
  replace w0_0 : (WNum .i64) a0_0 := w0_0
  replace w0_1 : (WNum .i64) a0_1 := w0_1
  replace w0_2 : (WList (fun x : P.S73 => (WNum .i64) x.f0 ∧ (WNum .i64) x.f1)) l0_2 := w0_2
  subst e0_1 e0_2 er0 e0_0 ex0
  clear hA0 hval0 hsz0 hsz
  obtain ⟨k, hk⟩ := pure a0_0 a0_1 l0_2 w0_0 w0_1 w0_2
  refine (P.laws_FnExactPartCount.calls k a0_0 a0_1 _ _ l0_2 true W hC0_2 hc0_2 hk).mono fun e W' ⟨he, bel⟩ => ?_
  subst he
  exact ⟨_, rfl, _, _, _, [], _, [], hW', trodAll_mk1 (shut_bool Try.underlying4 _), (trodAll_cons_mk (Below.trod laidOut (by kernel_rfl) (of_decide_eq_true (by kernel_rfl)) k0 bel lt0) trodAll_mk0), rfl, bel.frame _, fun h => by cases h⟩
theorem over (pure : Pure) : Rows.fnExactPartCountRow.holds Try.pinned (OpenSpec.ofChange Rows.fnExactPartCountSpec) :=
  OpenClaim.holds_of_wide 8 Try.f8 rfl rfl rfl rfl rfl rfl rfl ⟨rfl, rfl, rfl, rfl, rfl⟩ rfl rfl rfl rfl rfl (by kernel_rfl) Try.func8 (by kernel_rfl)
    (of_decide_eq_true (by kernel_rfl)) (by unfold Func.isWrapper; first | (rw [if_pos (by decide +kernel)]; kernel_rfl) | (rw [if_neg (by decide +kernel)]; exact ⟨rfl, rfl⟩))
    (fun os started H enc _ => lifted pure os started H enc)
end Go.Proofs.Ytlagoaoenaaglaa.fnExactPartCount
